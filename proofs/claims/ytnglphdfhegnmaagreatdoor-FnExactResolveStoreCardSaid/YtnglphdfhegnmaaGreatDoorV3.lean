/- Lemmas and walks that the law leans on, part 3. No condition. -/
import Derived.Test.YtnglphdfhegnmaaGreatDoorProg
import Derived.Lib.LaidTab
import Derived.Lib.ItoaNum
import Derived.Shelf.Strconv.Itoa3
import Derived.Lib.SlicesCompact
import Derived.Sort.Walk0
import Derived.Lib.IndexAny
import Derived.Lib.Strings
import Derived.Lib.IndexMore
import Derived.Lib.Replace
import Derived.Lib.IndexBytes
import Derived.Lib.FieldsP
import Derived.Lib.AtoiTie
import Derived.Test.YtnglphdfhegnmaaGreatDoorV2
set_option linter.unusedVariables false
set_option linter.unusedSimpArgs false
set_option linter.unusedSectionVars false
set_option maxRecDepth 10000
set_option maxHeartbeats 1000000
section
namespace Go.Proofs.YtnglphdfhegnmaaGreatDoor
open Go.Dv Go.Proofs.Tryz
def G5:List Int:=[0,1,2,3,0,1,2, -1,0,2,2,4,5,5,0,1,2,6,2,3,0,1, -1,2,0,2]
def sG (w:World):Prop:=Lib.TabIs prog w "internal/strconv.uint64pow10" .u64 Lib.pow10Tab/\(∃tp p,w.var? prog "strconv.ErrSyntax" =some #[.iface tp p])/\(∃tp p,w.var? prog "strconv.ErrRange" =some #[.iface tp p])/\(∃m,w.cell? ⟨1,0,none⟩=some (.int .i64 m))/\w.var? prog "loop.example/g01923/impl.soundCodes" =some (G5.map fun k=>Value.int .i64 k).toArray
instance:eZ:=⟨fun gl=>∀w:World,(∀p∈gl,w.heap[p.1]?=some p.2)->sG w⟩
theorem DR {w:World}{ow:Own}(h:Laid w ow):sG w:=by
 obtain⟨gl,h1,h2⟩:=h;exact h1 w fun p hp=>(h2 p hp).1
def T:TypeId->TyE:=arL [(1000170,1000),(1000014,1000),(1000015,1000),(1000016,0),(1000017,0),(1000046,1000),(1000047,1000),(1000048,0),(1000049,1000),(1000104,0),(1000105,0),(1000176,0),(1000193,0),(1000271,999),(1000316,999),(1000274,999),(1000273,999),(1000255,0),(1000206,0),(1000151,0),(1000156,0),(1000210,0),(1000333,0)] [(3,⟨.int .i64,1,.one (.int .i64 0)⟩),
 (4,⟨.bool,1,.one (.bool false)⟩),
 (5,⟨.int .u8,1,.one (.int .u8 0)⟩),
 (9,⟨.str,1,.one (.string {data:= #[]})⟩),
 (22,⟨.sl 145,1,.sl (some 145) []⟩),
 (24,⟨.agg [(0,22)],1,.agg [.sl (some 145) []]⟩),
 (25,⟨.sl 3,1,.sl (some 3) []⟩),
 (27,⟨.agg [(0,25),(1,3)],2,.agg [.sl (some 3) [],.one (.int .i64 0)]⟩),
 (29,⟨.agg [(0,24),(1,27),(3,25)],4,.agg [.agg [.sl (some 145) []],.agg [.sl (some 3) [],.one (.int .i64 0)],.sl (some 3) []]⟩),
 (30,⟨.sl 99,1,.sl (some 99) []⟩),
 (31,⟨.sl 137,1,.sl (some 137) []⟩),
 (33,⟨.agg [(0,3),(1,30),(2,31)],3,.agg [.one (.int .i64 0),.sl (some 99) [],.sl (some 137) []]⟩),
 (36,⟨.sl 25,1,.sl (some 25) []⟩),
 (37,⟨.sl 88,1,.sl (some 88) []⟩),
 (40,⟨.sl 148,1,.sl (some 148) []⟩),
 (42,⟨.agg [(0,40)],1,.agg [.sl (some 148) []]⟩),
 (43,⟨.agg [(0,25),(1,3)],2,.agg [.sl (some 3) [],.one (.int .i64 0)]⟩),
 (45,⟨.agg [(0,42),(1,43),(3,25)],4,.agg [.agg [.sl (some 148) []],.agg [.sl (some 3) [],.one (.int .i64 0)],.sl (some 3) []]⟩),
 (47,⟨.sl 104,1,.sl (some 104) []⟩),
 (49,⟨.agg [(0,3),(1,47),(2,37)],3,.agg [.one (.int .i64 0),.sl (some 104) [],.sl (some 88) []]⟩),
 (71,⟨.sl 117,1,.sl (some 117) []⟩),
 (74,⟨.agg [(0,25),(1,3),(2,4),(3,3)],4,.agg [.sl (some 3) [],.one (.int .i64 0),.one (.bool false),.one (.int .i64 0)]⟩),
 (88,⟨.agg [(0,3),(1,3),(2,4),(3,3)],4,.agg [.one (.int .i64 0),.one (.int .i64 0),.one (.bool false),.one (.int .i64 0)]⟩),
 (97,⟨.sl 9,1,.sl (some 9) []⟩),
 (99,⟨.agg [(0,3),(1,3),(2,3),(3,97)],4,.agg [.one (.int .i64 0),.one (.int .i64 0),.one (.int .i64 0),.sl (some 9) []]⟩),
 (104,⟨.agg [(0,3),(1,3),(2,3),(3,97)],4,.agg [.one (.int .i64 0),.one (.int .i64 0),.one (.int .i64 0),.sl (some 9) []]⟩),
 (117,⟨.agg [(0,3),(1,3),(2,4)],3,.agg [.one (.int .i64 0),.one (.int .i64 0),.one (.bool false)]⟩),
 (132,⟨.sl 182,1,.sl (some 182) []⟩),
 (137,⟨.agg [(0,3),(1,3),(2,4),(3,3)],4,.agg [.one (.int .i64 0),.one (.int .i64 0),.one (.bool false),.one (.int .i64 0)]⟩),
 (143,⟨.sl 240,1,.sl (some 240) []⟩),
 (145,⟨.agg [(0,143)],1,.agg [.sl (some 240) []]⟩),
 (146,⟨.sl 150,1,.sl (some 150) []⟩),
 (148,⟨.agg [(0,146)],1,.agg [.sl (some 150) []]⟩),
 (150,⟨.agg [(0,3),(1,3),(2,4)],3,.agg [.one (.int .i64 0),.one (.int .i64 0),.one (.bool false)]⟩),
 (166,⟨.agg [(0,36),(1,71),(2,25),(3,3),(4,3)],5,.agg [.sl (some 25) [],.sl (some 117) [],.sl (some 3) [],.one (.int .i64 0),.one (.int .i64 0)]⟩),
 (170,⟨.sl 172,1,.sl (some 172) []⟩),
 (172,⟨.sl 4,1,.sl (some 4) []⟩),
 (175,⟨.agg [(0,3),(1,3),(2,3)],3,.agg [.one (.int .i64 0),.one (.int .i64 0),.one (.int .i64 0)]⟩),
 (182,⟨.agg [(0,3),(1,3),(2,3),(3,3)],4,.agg [.one (.int .i64 0),.one (.int .i64 0),.one (.int .i64 0),.one (.int .i64 0)]⟩),
 (195,⟨.arr 400 3,400,.agg (List.replicate 400 (.one (.int .i64 0)))⟩),
 (225,⟨.int .u64,1,.one (.int .u64 0)⟩),
 (228,⟨.arr 2 3,2,.agg (List.replicate 2 (.one (.int .i64 0)))⟩),
 (229,⟨.arr 3 228,6,.agg (List.replicate 3 (.agg (List.replicate 2 (.one (.int .i64 0)))))⟩),
 (234,⟨.sl 5,1,.sl (some 5) []⟩),
 (240,⟨.agg [(0,3),(1,3),(2,4)],3,.agg [.one (.int .i64 0),.one (.int .i64 0),.one (.bool false)]⟩),
 (242,⟨.int .i64,1,.one (.int .i64 0)⟩),
 (255,⟨.fn,1,.one .nilFunc⟩),
 (258,⟨.fn,1,.one .nilFunc⟩),
 (279,⟨.fn,1,.one .nilFunc⟩),
 (309,⟨.ifc,1,.one .nilIface⟩)]
set_option maxRecDepth 10000 in
theorem good:∀t,Dv.Good prog T t:=am0
 ⟨⟨underlying3,t3,_,type3,rfl,rfl,rfl,rfl,by simp[Ty.isAgg],by decide,rfl⟩,
 ⟨underlying4,t4,_,type4,rfl,rfl,rfl,rfl,by simp[Ty.isAgg],by decide,rfl⟩,
 ⟨underlying5,t5,_,type5,rfl,rfl,rfl,rfl,by simp[Ty.isAgg],by decide,rfl⟩,
 ⟨underlying9,t9,_,type9,rfl,rfl,rfl,rfl,by simp[Ty.isAgg],by decide,rfl⟩,
 ⟨underlying22,t22,_,type22,rfl,rfl,rfl,rfl,by simp[Ty.isAgg],by decide,rfl⟩,
 ⟨⟨_,underlying24,rfl,iX.mem ⟨⟨by decide,t22,type22,by decide⟩,trivial⟩,stoodInHeld24⟩,t24,_,type24,rfl,rfl,rfl,rfl,by simp[Ty.isAgg],by decide,rfl⟩,
 ⟨underlying25,t25,_,type25,rfl,rfl,rfl,rfl,by simp[Ty.isAgg],by decide,rfl⟩,
 ⟨⟨_,underlying27,rfl,iX.mem ⟨⟨by decide,t25,type25,by decide⟩,⟨by decide,t3,type3,by decide⟩,trivial⟩,stoodInHeld27⟩,t27,_,type27,rfl,rfl,rfl,rfl,by simp[Ty.isAgg],by decide,rfl⟩,
 ⟨⟨_,underlying29,rfl,iX.mem ⟨⟨by decide,t24,type24,by decide⟩,⟨by decide,t27,type27,by decide⟩,⟨by decide,t25,type25,by decide⟩,trivial⟩,stoodInHeld29⟩,t29,_,type29,rfl,rfl,rfl,rfl,by simp[Ty.isAgg],by decide,rfl⟩,
 ⟨underlying30,t30,_,type30,rfl,rfl,rfl,rfl,by simp[Ty.isAgg],by decide,rfl⟩,
 ⟨underlying31,t31,_,type31,rfl,rfl,rfl,rfl,by simp[Ty.isAgg],by decide,rfl⟩,
 ⟨⟨_,underlying33,rfl,iX.mem ⟨⟨by decide,t3,type3,by decide⟩,⟨by decide,t30,type30,by decide⟩,⟨by decide,t31,type31,by decide⟩,trivial⟩,stoodInHeld33⟩,t33,_,type33,rfl,rfl,rfl,rfl,by simp[Ty.isAgg],by decide,rfl⟩,
 ⟨underlying36,t36,_,type36,rfl,rfl,rfl,rfl,by simp[Ty.isAgg],by decide,rfl⟩,
 ⟨underlying37,t37,_,type37,rfl,rfl,rfl,rfl,by simp[Ty.isAgg],by decide,rfl⟩,
 ⟨underlying40,t40,_,type40,rfl,rfl,rfl,rfl,by simp[Ty.isAgg],by decide,rfl⟩,
 ⟨⟨_,underlying42,rfl,iX.mem ⟨⟨by decide,t40,type40,by decide⟩,trivial⟩,stoodInHeld42⟩,t42,_,type42,rfl,rfl,rfl,rfl,by simp[Ty.isAgg],by decide,rfl⟩,
 ⟨⟨_,underlying43,rfl,iX.mem ⟨⟨by decide,t25,type25,by decide⟩,⟨by decide,t3,type3,by decide⟩,trivial⟩,stoodInHeld43⟩,t43,_,type43,rfl,rfl,rfl,rfl,by simp[Ty.isAgg],by decide,rfl⟩,
 ⟨⟨_,underlying45,rfl,iX.mem ⟨⟨by decide,t42,type42,by decide⟩,⟨by decide,t43,type43,by decide⟩,⟨by decide,t25,type25,by decide⟩,trivial⟩,stoodInHeld45⟩,t45,_,type45,rfl,rfl,rfl,rfl,by simp[Ty.isAgg],by decide,rfl⟩,
 ⟨underlying47,t47,_,type47,rfl,rfl,rfl,rfl,by simp[Ty.isAgg],by decide,rfl⟩,
 ⟨⟨_,underlying49,rfl,iX.mem ⟨⟨by decide,t3,type3,by decide⟩,⟨by decide,t47,type47,by decide⟩,⟨by decide,t37,type37,by decide⟩,trivial⟩,stoodInHeld49⟩,t49,_,type49,rfl,rfl,rfl,rfl,by simp[Ty.isAgg],by decide,rfl⟩,
 ⟨underlying71,t71,_,type71,rfl,rfl,rfl,rfl,by simp[Ty.isAgg],by decide,rfl⟩,
 ⟨⟨_,underlying74,rfl,iX.mem ⟨⟨by decide,t25,type25,by decide⟩,⟨by decide,t3,type3,by decide⟩,⟨by decide,t4,type4,by decide⟩,⟨by decide,t3,type3,by decide⟩,trivial⟩,stoodInHeld74⟩,t74,_,type74,rfl,rfl,rfl,rfl,by simp[Ty.isAgg],by decide,rfl⟩,
 ⟨⟨_,underlying88,rfl,iX.mem ⟨⟨by decide,t3,type3,by decide⟩,⟨by decide,t3,type3,by decide⟩,⟨by decide,t4,type4,by decide⟩,⟨by decide,t3,type3,by decide⟩,trivial⟩,stoodInHeld88⟩,t88,_,type88,rfl,rfl,rfl,rfl,by simp[Ty.isAgg],by decide,rfl⟩,
 ⟨underlying97,t97,_,type97,rfl,rfl,rfl,rfl,by simp[Ty.isAgg],by decide,rfl⟩,
 ⟨⟨_,underlying99,rfl,iX.mem ⟨⟨by decide,t3,type3,by decide⟩,⟨by decide,t3,type3,by decide⟩,⟨by decide,t3,type3,by decide⟩,⟨by decide,t97,type97,by decide⟩,trivial⟩,stoodInHeld99⟩,t99,_,type99,rfl,rfl,rfl,rfl,by simp[Ty.isAgg],by decide,rfl⟩,
 ⟨⟨_,underlying104,rfl,iX.mem ⟨⟨by decide,t3,type3,by decide⟩,⟨by decide,t3,type3,by decide⟩,⟨by decide,t3,type3,by decide⟩,⟨by decide,t97,type97,by decide⟩,trivial⟩,stoodInHeld104⟩,t104,_,type104,rfl,rfl,rfl,rfl,by simp[Ty.isAgg],by decide,rfl⟩,
 ⟨⟨_,underlying117,rfl,iX.mem ⟨⟨by decide,t3,type3,by decide⟩,⟨by decide,t3,type3,by decide⟩,⟨by decide,t4,type4,by decide⟩,trivial⟩,stoodInHeld117⟩,t117,_,type117,rfl,rfl,rfl,rfl,by simp[Ty.isAgg],by decide,rfl⟩,
 ⟨underlying132,t132,_,type132,rfl,rfl,rfl,rfl,by simp[Ty.isAgg],by decide,rfl⟩,
 ⟨⟨_,underlying137,rfl,iX.mem ⟨⟨by decide,t3,type3,by decide⟩,⟨by decide,t3,type3,by decide⟩,⟨by decide,t4,type4,by decide⟩,⟨by decide,t3,type3,by decide⟩,trivial⟩,stoodInHeld137⟩,t137,_,type137,rfl,rfl,rfl,rfl,by simp[Ty.isAgg],by decide,rfl⟩,
 ⟨underlying143,t143,_,type143,rfl,rfl,rfl,rfl,by simp[Ty.isAgg],by decide,rfl⟩,
 ⟨⟨_,underlying145,rfl,iX.mem ⟨⟨by decide,t143,type143,by decide⟩,trivial⟩,stoodInHeld145⟩,t145,_,type145,rfl,rfl,rfl,rfl,by simp[Ty.isAgg],by decide,rfl⟩,
 ⟨underlying146,t146,_,type146,rfl,rfl,rfl,rfl,by simp[Ty.isAgg],by decide,rfl⟩,
 ⟨⟨_,underlying148,rfl,iX.mem ⟨⟨by decide,t146,type146,by decide⟩,trivial⟩,stoodInHeld148⟩,t148,_,type148,rfl,rfl,rfl,rfl,by simp[Ty.isAgg],by decide,rfl⟩,
 ⟨⟨_,underlying150,rfl,iX.mem ⟨⟨by decide,t3,type3,by decide⟩,⟨by decide,t3,type3,by decide⟩,⟨by decide,t4,type4,by decide⟩,trivial⟩,stoodInHeld150⟩,t150,_,type150,rfl,rfl,rfl,rfl,by simp[Ty.isAgg],by decide,rfl⟩,
 ⟨⟨_,underlying166,rfl,iX.mem ⟨⟨by decide,t36,type36,by decide⟩,⟨by decide,t71,type71,by decide⟩,⟨by decide,t25,type25,by decide⟩,⟨by decide,t3,type3,by decide⟩,⟨by decide,t3,type3,by decide⟩,trivial⟩,stoodInHeld166⟩,t166,_,type166,rfl,rfl,rfl,rfl,by simp[Ty.isAgg],by decide,rfl⟩,
 ⟨underlying170,t170,_,type170,rfl,rfl,rfl,rfl,by simp[Ty.isAgg],by decide,rfl⟩,
 ⟨underlying172,t172,_,type172,rfl,rfl,rfl,rfl,by simp[Ty.isAgg],by decide,rfl⟩,
 ⟨⟨_,underlying175,rfl,iX.mem ⟨⟨by decide,t3,type3,by decide⟩,⟨by decide,t3,type3,by decide⟩,⟨by decide,t3,type3,by decide⟩,trivial⟩,stoodInHeld175⟩,t175,_,type175,rfl,rfl,rfl,rfl,by simp[Ty.isAgg],by decide,rfl⟩,
 ⟨⟨_,underlying182,rfl,iX.mem ⟨⟨by decide,t3,type3,by decide⟩,⟨by decide,t3,type3,by decide⟩,⟨by decide,t3,type3,by decide⟩,⟨by decide,t3,type3,by decide⟩,trivial⟩,stoodInHeld182⟩,t182,_,type182,rfl,rfl,rfl,rfl,by simp[Ty.isAgg],by decide,rfl⟩,
 ⟨underlying195,t195,_,type195,rfl,rfl,rfl,rfl,by simp[Ty.isAgg],by decide,rfl⟩,
 ⟨underlying225,t225,_,type225,rfl,rfl,rfl,rfl,by simp[Ty.isAgg],by decide,rfl⟩,
 ⟨underlying228,t228,_,type228,rfl,rfl,rfl,rfl,by simp[Ty.isAgg],by decide,rfl⟩,
 ⟨underlying229,t229,_,type229,rfl,rfl,rfl,rfl,by simp[Ty.isAgg],by decide,rfl⟩,
 ⟨underlying234,t234,_,type234,rfl,rfl,rfl,rfl,by simp[Ty.isAgg],by decide,rfl⟩,
 ⟨⟨_,underlying240,rfl,iX.mem ⟨⟨by decide,t3,type3,by decide⟩,⟨by decide,t3,type3,by decide⟩,⟨by decide,t4,type4,by decide⟩,trivial⟩,stoodInHeld240⟩,t240,_,type240,rfl,rfl,rfl,rfl,by simp[Ty.isAgg],by decide,rfl⟩,
 ⟨underlying242,t242,_,type242,rfl,rfl,rfl,rfl,by simp[Ty.isAgg],by decide,rfl⟩,
 ⟨⟨_,_,_,underlying255⟩,t255,_,type255,rfl,rfl,rfl,rfl,by simp[Ty.isAgg],by decide,rfl⟩,
 ⟨⟨_,_,_,underlying258⟩,t258,_,type258,rfl,rfl,rfl,rfl,by simp[Ty.isAgg],by decide,rfl⟩,
 ⟨⟨_,_,_,underlying279⟩,t279,_,type279,rfl,rfl,rfl,rfl,by simp[Ty.isAgg],by decide,rfl⟩,
 ⟨⟨_,underlying309⟩,t309,_,type309,rfl,rfl,rfl,rfl,by simp[Ty.isAgg],by decide,rfl⟩,
 trivial⟩
@[go_sem] theorem T3:T 3=⟨.int .i64,1,.one (.int .i64 0)⟩:=rfl
@[go_sem] theorem T4:T 4=⟨.bool,1,.one (.bool false)⟩:=rfl
@[go_sem] theorem T5:T 5=⟨.int .u8,1,.one (.int .u8 0)⟩:=rfl
@[go_sem] theorem T9:T 9=⟨.str,1,.one (.string {data:= #[]})⟩:=rfl
@[go_sem] theorem T22:T 22=⟨.sl 145,1,.sl (some 145) []⟩:=rfl
@[go_sem] theorem T24:T 24=⟨.agg [(0,22)],1,.agg [.sl (some 145) []]⟩:=rfl
@[go_sem] theorem T25:T 25=⟨.sl 3,1,.sl (some 3) []⟩:=rfl
@[go_sem] theorem T27:T 27=⟨.agg [(0,25),(1,3)],2,.agg [.sl (some 3) [],.one (.int .i64 0)]⟩:=rfl
@[go_sem] theorem T29:T 29=⟨.agg [(0,24),(1,27),(3,25)],4,.agg [.agg [.sl (some 145) []],.agg [.sl (some 3) [],.one (.int .i64 0)],.sl (some 3) []]⟩:=rfl
@[go_sem] theorem T30:T 30=⟨.sl 99,1,.sl (some 99) []⟩:=rfl
@[go_sem] theorem T31:T 31=⟨.sl 137,1,.sl (some 137) []⟩:=rfl
@[go_sem] theorem T33:T 33=⟨.agg [(0,3),(1,30),(2,31)],3,.agg [.one (.int .i64 0),.sl (some 99) [],.sl (some 137) []]⟩:=rfl
@[go_sem] theorem T36:T 36=⟨.sl 25,1,.sl (some 25) []⟩:=rfl
@[go_sem] theorem T37:T 37=⟨.sl 88,1,.sl (some 88) []⟩:=rfl
@[go_sem] theorem T40:T 40=⟨.sl 148,1,.sl (some 148) []⟩:=rfl
@[go_sem] theorem T42:T 42=⟨.agg [(0,40)],1,.agg [.sl (some 148) []]⟩:=rfl
@[go_sem] theorem T43:T 43=⟨.agg [(0,25),(1,3)],2,.agg [.sl (some 3) [],.one (.int .i64 0)]⟩:=rfl
@[go_sem] theorem T45:T 45=⟨.agg [(0,42),(1,43),(3,25)],4,.agg [.agg [.sl (some 148) []],.agg [.sl (some 3) [],.one (.int .i64 0)],.sl (some 3) []]⟩:=rfl
@[go_sem] theorem T47:T 47=⟨.sl 104,1,.sl (some 104) []⟩:=rfl
@[go_sem] theorem T49:T 49=⟨.agg [(0,3),(1,47),(2,37)],3,.agg [.one (.int .i64 0),.sl (some 104) [],.sl (some 88) []]⟩:=rfl
@[go_sem] theorem T71:T 71=⟨.sl 117,1,.sl (some 117) []⟩:=rfl
@[go_sem] theorem T74:T 74=⟨.agg [(0,25),(1,3),(2,4),(3,3)],4,.agg [.sl (some 3) [],.one (.int .i64 0),.one (.bool false),.one (.int .i64 0)]⟩:=rfl
@[go_sem] theorem T88:T 88=⟨.agg [(0,3),(1,3),(2,4),(3,3)],4,.agg [.one (.int .i64 0),.one (.int .i64 0),.one (.bool false),.one (.int .i64 0)]⟩:=rfl
@[go_sem] theorem T97:T 97=⟨.sl 9,1,.sl (some 9) []⟩:=rfl
@[go_sem] theorem T99:T 99=⟨.agg [(0,3),(1,3),(2,3),(3,97)],4,.agg [.one (.int .i64 0),.one (.int .i64 0),.one (.int .i64 0),.sl (some 9) []]⟩:=rfl
@[go_sem] theorem aFB:T 104=⟨.agg [(0,3),(1,3),(2,3),(3,97)],4,.agg [.one (.int .i64 0),.one (.int .i64 0),.one (.int .i64 0),.sl (some 9) []]⟩:=rfl
@[go_sem] theorem aFC:T 117=⟨.agg [(0,3),(1,3),(2,4)],3,.agg [.one (.int .i64 0),.one (.int .i64 0),.one (.bool false)]⟩:=rfl
@[go_sem] theorem aEZ:T 132=⟨.sl 182,1,.sl (some 182) []⟩:=rfl
@[go_sem] theorem aFK:T 137=⟨.agg [(0,3),(1,3),(2,4),(3,3)],4,.agg [.one (.int .i64 0),.one (.int .i64 0),.one (.bool false),.one (.int .i64 0)]⟩:=rfl
@[go_sem] theorem aE0:T 143=⟨.sl 240,1,.sl (some 240) []⟩:=rfl
@[go_sem] theorem aE2:T 145=⟨.agg [(0,143)],1,.agg [.sl (some 240) []]⟩:=rfl
@[go_sem] theorem aEO:T 146=⟨.sl 150,1,.sl (some 150) []⟩:=rfl
@[go_sem] theorem aFF:T 148=⟨.agg [(0,146)],1,.agg [.sl (some 150) []]⟩:=rfl
@[go_sem] theorem aER:T 150=⟨.agg [(0,3),(1,3),(2,4)],3,.agg [.one (.int .i64 0),.one (.int .i64 0),.one (.bool false)]⟩:=rfl
@[go_sem] theorem aFI:T 166=⟨.agg [(0,36),(1,71),(2,25),(3,3),(4,3)],5,.agg [.sl (some 25) [],.sl (some 117) [],.sl (some 3) [],.one (.int .i64 0),.one (.int .i64 0)]⟩:=rfl
@[go_sem] theorem aEU:T 170=⟨.sl 172,1,.sl (some 172) []⟩:=rfl
@[go_sem] theorem aEP:T 172=⟨.sl 4,1,.sl (some 4) []⟩:=rfl
@[go_sem] theorem aET:T 175=⟨.agg [(0,3),(1,3),(2,3)],3,.agg [.one (.int .i64 0),.one (.int .i64 0),.one (.int .i64 0)]⟩:=rfl
@[go_sem] theorem aE4:T 182=⟨.agg [(0,3),(1,3),(2,3),(3,3)],4,.agg [.one (.int .i64 0),.one (.int .i64 0),.one (.int .i64 0),.one (.int .i64 0)]⟩:=rfl
@[go_sem] theorem aFH:T 195=⟨.arr 400 3,400,.agg (List.replicate 400 (.one (.int .i64 0)))⟩:=rfl
@[go_sem] theorem aFE:T 225=⟨.int .u64,1,.one (.int .u64 0)⟩:=rfl
@[go_sem] theorem aE8:T 228=⟨.arr 2 3,2,.agg (List.replicate 2 (.one (.int .i64 0)))⟩:=rfl
@[go_sem] theorem aEY:T 229=⟨.arr 3 228,6,.agg (List.replicate 3 (.agg (List.replicate 2 (.one (.int .i64 0)))))⟩:=rfl
@[go_sem] theorem aES:T 234=⟨.sl 5,1,.sl (some 5) []⟩:=rfl
@[go_sem] theorem aE3:T 240=⟨.agg [(0,3),(1,3),(2,4)],3,.agg [.one (.int .i64 0),.one (.int .i64 0),.one (.bool false)]⟩:=rfl
@[go_sem] theorem aEV:T 242=⟨.int .i64,1,.one (.int .i64 0)⟩:=rfl
@[go_sem] theorem aE1:T 255=⟨.fn,1,.one .nilFunc⟩:=rfl
@[go_sem] theorem aFD:T 258=⟨.fn,1,.one .nilFunc⟩:=rfl
@[go_sem] theorem aE9:T 279=⟨.fn,1,.one .nilFunc⟩:=rfl
@[go_sem] theorem aE7:T 309=⟨.ifc,1,.one .nilIface⟩:=rfl
def EL (P:Program):List Nat->Prop
 |[]=>True
 |f::l=>Dv.Enters P f/\EL P l
theorem EL.get {P:Program}{f:Nat}:∀{l:List Nat},EL P l->f∈l->Dv.Enters P f
 |[],_,h=>by cases h
 |g::l,h,hm=>by
  rcases List.mem_cons.1 hm with rfl|hm
  ·exact h.1
  ·exact EL.get h.2 hm
def eL:List Nat:=[4,5,6,7,8,9,10,11,12,13,14,15,16,17,18,19,20,21,22,23,24,25,26,27,28,29,30,31,32,33,34,35,36,37,38,39,40,41,42,43,44,45,46,47,48,49,50,51,52,53,54,55,56,57,58,59,60,61,62,63,64,65,66,67,68,69,70,71,72,73,74,75,76,77,78,79,80,81,82,83,84,85,86,87,88,89,90,91,92,93,94,95,96,97,98,99,100,101,102,103,104,105,106,107,108,109,110,111,112,113,114,115,116,117,118,119,120,121,122,123,124,125,126,127,128,129,130,131,132,133,134,135,136,137,138,139,140,141,142,143,144,145,146,147,148,149,150,151,152,153,154,155,156,157,158,159,160,161,162,163,164,165,166,167,168,169,170,171,172,173,174,175,176,177,178,179,180,181,182,183,184,185,186,187,188,189,190,191,192,193,194,195,196,197,198,199,200,201,202,203,204,205,206,207,208,209,210,211,212,213,214,215,216,217,218,219,220,221,222,223,224,225,226,227,228,229,230,231,232,233,234,235,236,237,238,239,240,241,242,243,244,245,246,247,248,249,250,251,252,253,255,256,257,258,259,260,261,262,263,266,267,268,269,270,271,272,273,274,275,276,277,278,279,280,281,282,283,284,285,286,287,288,289,290,291,292,293,294,295,296,297,298,299,300,301,302,303,314,315,316,317,318,319,320,321,322,323,324,325,326,327,328,329,330,331,332,333,335,336,337,338,339,347,349,350,351,352,353,354,355,356,357,358,359,360,361,362,363,364,365,369,372,373,374,375,376,377,378,379,380,381,382,385]
open Tryz in
theorem eLs:EL prog eL:=⟨call4,call5,call6,call7,call8,call9,call10,call11,call12,call13,call14,call15,call16,call17,call18,call19,call20,call21,call22,call23,call24,call25,call26,call27,call28,call29,call30,call31,call32,call33,call34,call35,call36,call37,call38,call39,call40,call41,call42,call43,call44,call45,call46,call47,call48,call49,call50,call51,call52,call53,call54,call55,call56,call57,call58,call59,call60,call61,call62,call63,call64,call65,call66,call67,call68,call69,call70,call71,call72,call73,call74,call75,call76,call77,call78,call79,call80,call81,call82,call83,call84,call85,call86,call87,call88,call89,call90,call91,call92,call93,call94,call95,call96,call97,call98,call99,call100,call101,call102,call103,call104,call105,call106,call107,call108,call109,call110,call111,call112,call113,call114,call115,call116,call117,call118,call119,call120,call121,call122,call123,call124,call125,call126,call127,call128,call129,call130,call131,call132,call133,call134,call135,call136,call137,call138,call139,call140,call141,call142,call143,call144,call145,call146,call147,call148,call149,call150,call151,call152,call153,call154,call155,call156,call157,call158,call159,call160,call161,call162,call163,call164,call165,call166,call167,call168,call169,call170,call171,call172,call173,call174,call175,call176,call177,call178,call179,call180,call181,call182,call183,call184,call185,call186,call187,call188,call189,call190,call191,call192,call193,call194,call195,call196,call197,call198,call199,call200,call201,call202,call203,call204,call205,call206,call207,call208,call209,call210,call211,call212,call213,call214,call215,call216,call217,call218,call219,call220,call221,call222,call223,call224,call225,call226,call227,call228,call229,call230,call231,call232,call233,call234,call235,call236,call237,call238,call239,call240,call241,call242,call243,call244,call245,call246,call247,call248,call249,call250,call251,call252,call253,call255,call256,call257,call258,call259,call260,call261,call262,call263,call266,call267,call268,call269,call270,call271,call272,call273,call274,call275,call276,call277,call278,call279,call280,call281,call282,call283,call284,call285,call286,call287,call288,call289,call290,call291,call292,call293,call294,call295,call296,call297,call298,call299,call300,call301,call302,call303,call314,call315,call316,call317,call318,call319,call320,call321,call322,call323,call324,call325,call326,call327,call328,call329,call330,call331,call332,call333,call335,call336,call337,call338,call339,call347,call349,call350,call351,call352,call353,call354,call355,call356,call357,call358,call359,call360,call361,call362,call363,call364,call365,call369,call372,call373,call374,call375,call376,call377,call378,call379,call380,call381,call382,call385,trivial⟩
def okF (f:Nat):Bool:=decide (f<461)&& !([0,1,2,3,254,264,265,304,305,306,307,308,309,310,311,312,313,334,340,341,342,343,344,345,346,348,366,367,368,370,371,383,384,386,387,388,389,390,391,392,393,394,395,396,397,398,399,400,401,402,403,404,405,406,407,408,409,410,411,412,413,414,415,416,417,418,419,420,421,422,423,424,425,426,427,428,429,430,431,432,433,434,435,436,437,438,439,440,441,442,443,444,445,446,447,448,449,450,451,452,453,454,455,456,457,458,459,460].contains f)
theorem axL {f:Nat}(h:okF f=true):f∈eL:=by
 have h1:(List.range 461).all (fun f=> !okF f||eL.contains f)=true:=by kernel_rfl
 have h2:f<461:=by simp only[okF,Bool.and_eq_true,decide_eq_true_eq]at h;exact h.1
 have h3:=List.all_eq_true.1 h1 f (List.mem_range.2 h2);rw[h]at h3;simpa using h3
@[go_sem] theorem enF {f:Nat}(h:okF f=true):Dv.Enters prog f:=EL.get eLs (axL h)
attribute [go_sem] okF
theorem auR {M:List (Nat×Nat)}{L:List (Nat×TyE)}{t:Nat}(h1:M.lookup t=none)(h2:∀p∈L,p.1≠t):arL M L t=⟨.no,0,.any 0⟩:=by
 unfold arL;rw[h1]
 induction L with
 |nil=>rfl
 |cons p L ih=>
  obtain⟨u,e⟩:=p;have h3:=h2 (u,e) List.mem_cons_self;simp only[tab];rw[if_neg (by simpa using Ne.symm h3)];exact ih fun p hp=>h2 p (List.mem_cons_of_mem _ hp)
theorem aa2 {f:Nat}:∀{M:List (Nat×Nat)},((M.map fun p=>p.1).contains f)=false->M.lookup f=none
 |[],_=>rfl
 |(a,b)::M,h=>by
  simp only[List.map_cons,List.contains_cons,Bool.or_eq_false_iff]at h;rw[List.lookup,h.1];exact aa2 h.2
@[go_sem] theorem muF {f:Nat}(h1:1000000<=f)(h2:([1000170,1000014,1000015,1000016,1000017,1000046,1000047,1000048,1000049,1000104,1000105,1000176,1000193,1000271,1000316,1000274,1000273,1000255,1000206,1000151,1000156,1000210,1000333].contains f)=false):T f=⟨.no,0,.any 0⟩:=by
 unfold T;refine auR (aa2 h2) fun p hp e=> ?_;have h3:=fun h=>List.all_eq_true (p:=fun q:Nat×TyE=>decide (q.1<1000000))|>.1 h p hp;have h4:=h3 (by kernel_rfl);simp only[decide_eq_true_eq]at h4;omega
@[go_sem] theorem aEI:T 1000170=⟨.no,1001,.any 0⟩:=rfl
@[go_sem] theorem aEQ:T 1000014=⟨.no,1001,.any 0⟩:=rfl
@[go_sem] theorem aEW:T 1000015=⟨.no,1001,.any 0⟩:=rfl
@[go_sem] theorem aE6:T 1000016=⟨.no,1,.any 0⟩:=rfl
@[go_sem] theorem aFG:T 1000017=⟨.no,1,.any 0⟩:=rfl
@[go_sem] theorem aE5:T 1000046=⟨.no,1001,.any 0⟩:=rfl
@[go_sem] theorem aEX:T 1000047=⟨.no,1001,.any 0⟩:=rfl
@[go_sem] theorem aFJ:T 1000048=⟨.no,1,.any 0⟩:=rfl
@[go_sem] theorem aFA:T 1000049=⟨.no,1001,.any 0⟩:=rfl
@[go_sem] theorem aEG:T 1000104=⟨.no,1,.any 0⟩:=rfl
@[go_sem] theorem aD7:T 1000105=⟨.no,1,.any 0⟩:=rfl
@[go_sem] theorem aEC:T 1000176=⟨.no,1,.any 0⟩:=rfl
@[go_sem] theorem aEK:T 1000193=⟨.no,1,.any 0⟩:=rfl
@[go_sem] theorem aEA:T 1000271=⟨.no,1000,.any 0⟩:=rfl
@[go_sem] theorem aEF:T 1000316=⟨.no,1000,.any 0⟩:=rfl
@[go_sem] theorem aEE:T 1000274=⟨.no,1000,.any 0⟩:=rfl
@[go_sem] theorem aEM:T 1000273=⟨.no,1000,.any 0⟩:=rfl
@[go_sem] theorem aEN:T 1000255=⟨.no,1,.any 0⟩:=rfl
@[go_sem] theorem aD8:T 1000206=⟨.no,1,.any 0⟩:=rfl
@[go_sem] theorem aD9:T 1000151=⟨.no,1,.any 0⟩:=rfl
@[go_sem] theorem aEJ:T 1000156=⟨.no,1,.any 0⟩:=rfl
@[go_sem] theorem aEB:T 1000210=⟨.no,1,.any 0⟩:=rfl
@[go_sem] theorem aEH:T 1000333=⟨.no,1,.any 0⟩:=rfl
theorem az3:T 1000149=⟨.no,0,.any 0⟩:=rfl
theorem azS:Dv.Enters prog 149:=call149
theorem aDB:T 1000152=⟨.no,0,.any 0⟩:=rfl
theorem aDO:Dv.Enters prog 152:=call152
theorem aCV:T 1000171=⟨.no,0,.any 0⟩:=rfl
theorem aDG:Dv.Enters prog 171:=call171
theorem aCP:T 1000209=⟨.no,0,.any 0⟩:=rfl
theorem aCT:Dv.Enters prog 209:=call209
theorem aC3:T 1000268=⟨.no,0,.any 0⟩:=rfl
theorem aCY:Dv.Enters prog 268:=call268
theorem aCU:T 1000277=⟨.no,0,.any 0⟩:=rfl
theorem aDC:Dv.Enters prog 277:=call277
theorem aB9:T 1000315=⟨.no,0,.any 0⟩:=rfl
theorem aCQ:Dv.Enters prog 315:=call315
theorem aCH:T 1000323=⟨.no,0,.any 0⟩:=rfl
theorem aCJ:Dv.Enters prog 323:=call323
theorem aCD:Dv.Enters prog 336:=call336
theorem aC8:T 1000351=⟨.no,0,.any 0⟩:=rfl
theorem aDD:Dv.Enters prog 351:=call351
theorem aC7:T 1000356=⟨.no,0,.any 0⟩:=rfl
theorem aDQ:Dv.Enters prog 356:=call356
theorem aCO:T 1000358=⟨.no,0,.any 0⟩:=rfl
theorem aDI:Dv.Enters prog 358:=call358
abbrev Fk (f:FuncId)(ds:List D)(r:S):Prop:=bR prog f ds fun r'=>r'=r
end Go.Proofs.YtnglphdfhegnmaaGreatDoor
end
section
namespace Go.Proofs.YtnglphdfhegnmaaGreatDoor
open Go.Dv Go.Pl Go.Proofs.Tryz
abbrev nInts (l:List Int):D:= .sl none (l.map dI)
abbrev aD (l:List Int):D:= .sl (some 3) (l.map dI)
abbrev bD (l:List Str):D:= .sl none (l.map dS)
abbrev oG (l:List Str):D:= .sl (some 9) (l.map dS)
abbrev aL (m:List (List Int)):D:= .sl none (m.map nInts)
abbrev eB (m:List (List Int)):D:= .sl (some 25) (m.map aD)
abbrev dP (v:Ver):D:= .agg [dI v.a,dI v.b,dB v.same,dI v.time]
abbrev aU (l:List Ver):D:= .sl none (l.map dP)
abbrev bN (l:List Ver):D:= .sl (some 88) (l.map dP)
abbrev lJ (t:Tst):D:= .agg [dI t.feature,dI t.threshold,dB t.below]
abbrev mZ (l:List Tst):D:= .agg [.sl none (l.map lJ)]
abbrev gG (r:List (List Tst)):D:= .agg [.sl none (r.map mZ)]
abbrev xK (s:Sco):D:= .agg [nInts s.weights,dI s.bias]
abbrev F6 (c:Cfg):D:= .agg [gG c.rules,xK c.sco,nInts c.surv]
abbrev tY (r:Rec):D:= .agg [dI r.source,dI r.key,dI r.version,bD r.fields]
abbrev iG (l:List Rec):D:= .sl none (l.map tY)
abbrev xZ (s:Sto):D:= .agg [dI s.version,iG s.recs,aU s.vers]
theorem aG (x a b:Int):Fk 94 [dI x,dI a,dI b] (.val (dB (inR x a b))):=by
 refine fE good [] func94 ntmps94 fun w0 ow0=> ?_;simp[go_sem];refine gv (fun g1=> ?_) (fun g1=> ?_)
 ·have g1':=g1;simp[go_sem,g1]
 ·have g1':=g1;simp at g1';simp[go_sem,g1]
theorem aH (x a b:Int):Fk 58 [dI x,dI a,dI b] (.val (dB (inR x a b))):=by
 refine fE good [] func58 ntmps58 fun w0 ow0=> ?_;simp[go_sem];refine gv (fun g1=> ?_) (fun g1=> ?_)
 ·have g1':=g1;simp[go_sem,g1]
 ·have g1':=g1;simp at g1';simp[go_sem,g1]
theorem zU (x:Int):Fk 203 [dI x] (.val (dB (inR x 1 399))):=by
 refine fE good [] func203 ntmps203 fun w0 ow0=> ?_;simp[go_sem];refine ck (aG _ _ _) ?_;simp[go_sem]
theorem CL (v:Ver):Fk 148 [dP v] (.val (dB (bH v))):=by
 refine fE good [] func148 ntmps148 fun w0 ow0=> ?_;simp[go_sem];refine ck (zU _) ?_;simp[go_sem];refine gv (fun g1=> ?_) (fun g1=> ?_)
 ·have g1':=g1;simp at g1';simp[go_sem,g1];refine ck (zU _) ?_;simp[go_sem];refine gv (fun g2=> ?_) (fun g2=> ?_)
  ·have g2':=g2;simp at g2';simp[go_sem,g2];refine gv (fun g3=> ?_) (fun g3=> ?_)
   ·have g3':=g3;simp[go_sem,g3];refine ck (aG _ _ _) ?_;simp[go_sem];grind[bH]
   ·have g3':=g3;simp at g3';simp[go_sem,g3];grind[bH]
  ·have g2':=g2;simp at g2';simp[go_sem,g2];grind[bH]
 ·have g1':=g1;simp at g1';simp[go_sem,g1];grind[bH]
theorem qU (v:Ver):Fk 109 [dP v] (.val (dB (bH v))):=by
 refine fE good [] func109 ntmps109 fun w0 ow0=> ?_;simp[go_sem];refine ck (aH _ _ _) ?_;simp[go_sem];refine gv (fun g1=> ?_) (fun g1=> ?_)
 ·have g1':=g1;simp at g1';simp[go_sem,g1];refine ck (aH _ _ _) ?_;simp[go_sem];refine gv (fun g2=> ?_) (fun g2=> ?_)
  ·have g2':=g2;simp at g2';simp[go_sem,g2];refine gv (fun g3=> ?_) (fun g3=> ?_)
   ·have g3':=g3;simp[go_sem,g3];refine ck (aH _ _ _) ?_;simp[go_sem];grind[bH]
   ·have g3':=g3;simp at g3';simp[go_sem,g3];grind[bH]
  ·have g2':=g2;simp at g2';simp[go_sem,g2];grind[bH]
 ·have g1':=g1;simp at g1';simp[go_sem,g1];grind[bH]
theorem WG (s:Str)(hs:s.length<=1048576:=by first|assumption|omega|(simp;omega)|grind):Fk 179 [dS s] (.val (dB (isText s))):=by
 refine fE good [] func179 ntmps179 fun w0 ow0=> ?_;simp[go_sem];refine wl good (fun(i:Nat)=>[(0,.val (dS s)),(3,.val (dI i))]) (fun(i:Nat)=>(s).length-i) (fun(i:Nat)=>(i<=(s).length)/\(((s).take i).all qI=true)) (0) ⟨(by omega),rfl⟩ ?_;rintro i ⟨h1,h2⟩;simp[go_sem];refine gw (fun a=> ?_) (fun a=> ?_)
 ·obtain⟨c,hc⟩:=aC (l:=s) (i:=i) (by omega);simp[go_sem,hc];refine gv (fun g=> ?_) (fun g=> ?_)
  ·have g':=g;have hn:=bO hc (P:=qI) (by first|assumption|(simp;omega)|(simp[*];done)|(simp[qI, *];done)|grind[qI]|(simp[qI];omega));simp[go_sem,g];grind[isText]
  ·have g':=g;simp at g';simp[go_sem,hc,g];refine gw (fun b=> ?_) (fun b=> ?_)
   ·have hn:=bO hc (P:=qI) (by first|assumption|(simp;omega)|(simp[*];done)|(simp[qI, *];done)|grind[qI]|(simp[qI];omega));simp[go_sem];grind[isText]
   ·simp at b;simp[go_sem];refine ai ?_;refine nx (i+1) ⟨(by omega),(aM hc h2 (by first|assumption|(simp;omega)|(simp[*];done)|(simp[qI, *];done)|grind[qI]|(simp[qI];omega)))⟩
 ·simp at a;have hf:=dM h2 a;simp[go_sem];grind[isText]
theorem TN (s:Str)(hs:s.length<=1048576):Fk 108 [dS s] (.val (dB (fC s))):=by
 refine fE good [] func108 ntmps108 fun w0 ow0=> ?_;simp[go_sem];refine wl good (fun(i:Nat)=>[(0,.val (dS s)),(3,.val (dI i))]) (fun(i:Nat)=>(s).length-i) (fun(i:Nat)=>(i<=(s).length)/\(((s).take i).all mP=true)) (0) ⟨(by omega),rfl⟩ ?_;rintro i ⟨h1,h2⟩;simp[go_sem];refine gw (fun a=> ?_) (fun a=> ?_)
 ·obtain⟨c,hc⟩:=aC (l:=s) (i:=i) (by omega);simp[go_sem,hc];refine gv (fun g=> ?_) (fun g=> ?_)
  ·have g':=g;have hn:=bO hc (P:=mP) (by first|assumption|(simp;omega)|(simp[*];done)|(simp[mP, *];done)|grind[mP]|(simp[mP];omega));simp[go_sem,g];grind[fC]
  ·have g':=g;simp[go_sem,hc,g];refine gw (fun b=> ?_) (fun b=> ?_)
   ·have hn:=bO hc (P:=mP) (by first|assumption|(simp;omega)|(simp[*];done)|(simp[mP, *];done)|grind[mP]|(simp[mP];omega));simp[go_sem];grind[fC]
   ·simp[go_sem];refine ai ?_;refine nx (i+1) ⟨(by omega),(aM hc h2 (by first|assumption|(simp;omega)|(simp[*];done)|(simp[mP, *];done)|grind[mP]|(simp[mP];omega)))⟩
 ·simp at a;have hf:=dM h2 a;simp[go_sem];refine ck (WG _) ?_;simp[go_sem];grind[fC]
theorem iL (f:List Int)(hs:f.length<=1048576:=by first|assumption|omega|(simp;omega)|grind):Fk 112 [nInts f] (.val (dB (mE f))):=by
 refine fE good [] func112 ntmps112 fun w0 ow0=> ?_;simp[go_sem];refine wl good (fun(i:Nat)=>[(0,.val (nInts f)),(3,.val (dI i))]) (fun(i:Nat)=>(f).length-i) (fun(i:Nat)=>(i<=(f).length)/\(((f).take i).all wX=true)) (0) ⟨(by omega),rfl⟩ ?_;rintro i ⟨h1,h2⟩;simp[go_sem];refine gw (fun a=> ?_) (fun a=> ?_)
 ·obtain⟨c,hc⟩:=aC (l:=f) (i:=i) (by omega);simp[go_sem,hc];refine ck (aH _ _ _) ?_;simp[go_sem];refine gw (fun b=> ?_) (fun b=> ?_)
  ·simp at b;have hn:=bO hc (P:=wX) (by first|assumption|(simp;omega)|(simp[*];done)|(simp[wX, *];done)|grind[wX]|(simp[wX];omega));simp[go_sem];grind[mE]
  ·simp at b;simp[go_sem];refine ai ?_;refine nx (i+1) ⟨(by omega),(aM hc h2 (by first|assumption|(simp;omega)|(simp[*];done)|(simp[wX, *];done)|grind[wX]|(simp[wX];omega)))⟩
 ·simp at a;have hf:=dM h2 a;simp[go_sem];grind[mE]
theorem zI (f:List Int)(hs:f.length<=1048576:=by first|assumption|omega|(simp;omega)|grind):Fk 55 [nInts f] (.val (dB (tC f))):=by
 refine fE good [] func55 ntmps55 fun w0 ow0=> ?_;simp[go_sem];refine wl good (fun(i:Nat)=>[(0,.val (nInts f)),(3,.val (dI i))]) (fun(i:Nat)=>(f).length-i) (fun(i:Nat)=>(i<=(f).length)/\(((f).take i).all H5=true)) (0) ⟨(by omega),rfl⟩ ?_;rintro i ⟨h1,h2⟩;simp[go_sem];refine gw (fun a=> ?_) (fun a=> ?_)
 ·obtain⟨c,hc⟩:=aC (l:=f) (i:=i) (by omega);simp[go_sem,hc];refine ck (aH _ _ _) ?_;simp[go_sem];refine gw (fun b=> ?_) (fun b=> ?_)
  ·simp at b;have hn:=bO hc (P:=H5) (by first|assumption|(simp;omega)|(simp[*];done)|(simp[H5, *];done)|grind[H5]|(simp[H5];omega));simp[go_sem];grind[tC]
  ·simp at b;simp[go_sem];refine ai ?_;refine nx (i+1) ⟨(by omega),(aM hc h2 (by first|assumption|(simp;omega)|(simp[*];done)|(simp[H5, *];done)|grind[H5]|(simp[H5];omega)))⟩
 ·simp at a;have hf:=dM h2 a;simp[go_sem];grind[tC]
theorem tQ (a b:Int):Fk 180 [dI a,dI b] (.val (dI (oM a b))):=by
 refine fE good [] func180 ntmps180 fun w0 ow0=> ?_;simp[go_sem];refine gw (fun h1=> ?_) (fun h1=> ?_)
 ·simp[go_sem];grind[oM]
 ·simp at h1;simp[go_sem];refine gw (fun h2=> ?_) (fun h2=> ?_)
  ·simp[go_sem];grind[oM]
  ·simp at h2;simp[go_sem];grind[oM]
theorem mF (l:List Int)(x:Int)(hs:l.length<=1048576:=by first|assumption|omega|(simp;omega)|grind):Fk 122 [nInts l,dI x] (.val (dI (ix (fun y=>decide (y=x)) l))):=by
 refine fE good [] func122 ntmps122 fun w0 ow0=> ?_;simp[go_sem];refine wl good (fun(i:Nat)=>[(0,.val (nInts l)),(1,.val (dI x)),(5,.val (dI i))]) (fun(i:Nat)=>(l).length-i) (fun(i:Nat)=>(i<=(l).length)/\(((l).take i).any (fun y=>decide (y=x))=false)) (0) ⟨(by omega),rfl⟩ ?_;rintro i ⟨h1,h2⟩;simp[go_sem];refine gw (fun a=> ?_) (fun a=> ?_)
 ·obtain⟨c,hc⟩:=aC (l:=l) (i:=i) (by omega);simp[go_sem,hc];refine gw (fun b=> ?_) (fun b=> ?_)
  ·have hn:=vH hc h2 (by simp[b]);simp[go_sem,hn]
  ·simp[go_sem];refine ai ?_;refine nx (i+1) ⟨(by omega),(eX hc h2 (by simp[b]))⟩
 ·simp at a;have hf:=j5 h2 a;have hx:=lX hf;simp[go_sem,hx]
theorem mI (l:List Ver)(hs:l.length<=1048576:=by first|assumption|omega|(simp;omega)|grind):Fk 61 [aU l] (.own (bN l)):=by
 refine fE good [] func61 ntmps61 fun w0 ow0=> ?_;simp[go_sem];omega
theorem jP (r:Rec)(hs:u7 r):Fk 56 [tY r] (.val (dB (aJ r))):=by
 refine fE good [] func56 ntmps56 fun w0 ow0=> ?_;obtain⟨hs1,hs2⟩:=hs;simp[go_sem];refine wl good (fun(i:Nat)=>[(1,.own (.bx true (tY r))),(3,.val (dI i))]) (fun(i:Nat)=>(r.fields).length-i) (fun(i:Nat)=>(i<=(r.fields).length)/\(((r.fields).take i).all fC=true)) (0) ⟨(by omega),rfl⟩ ?_;rintro i ⟨h1,h2⟩;simp[go_sem];refine gw (fun a=> ?_) (fun a=> ?_)
 ·obtain⟨c,hc⟩:=aC (l:=r.fields) (i:=i) (by omega);simp[go_sem,hc];refine ck (TN _ (hs2 c (List.mem_of_getElem? hc))) ?_;simp[go_sem];refine gw (fun b=> ?_) (fun b=> ?_)
  ·simp at b;have hn:=bO hc (P:=fC) (by first|assumption|(simp;omega)|(simp[*];done)|(simp[fC, *];done)|grind[fC]|(simp[fC];omega));simp[go_sem];grind[aJ]
  ·simp at b;simp[go_sem];refine ai ?_;refine nx (i+1) ⟨(by omega),(aM hc h2 (by first|assumption|(simp;omega)|(simp[*];done)|(simp[fC, *];done)|grind[fC]|(simp[fC];omega)))⟩
 ·simp at a;have hf:=dM h2 a;simp[go_sem];refine ck (aH _ _ _) ?_;simp[go_sem];refine gv (fun g1=> ?_) (fun g1=> ?_)
  ·have g1':=g1;simp at g1';simp[go_sem,g1];refine ck (aH _ _ _) ?_;simp[go_sem];refine gv (fun g2=> ?_) (fun g2=> ?_)
   ·have g2':=g2;simp at g2';simp[go_sem,g2];refine ck (aH _ _ _) ?_;simp[go_sem];refine gv (fun g3=> ?_) (fun g3=> ?_)
    ·have g3':=g3;simp at g3';simp[go_sem,g3];grind[aJ]
    ·have g3':=g3;simp at g3';simp[go_sem,g3];grind[aJ]
   ·have g2':=g2;simp at g2';simp[go_sem,g2];grind[aJ]
  ·have g1':=g1;simp at g1';simp[go_sem,g1];grind[aJ]
theorem sQ (r:Rec)(hs:inR r.source 0 3=true)(hk:inR r.key 1 99=true):Fk 57 [tY r] (.val (dI (eG r))):=by
 refine fE good [] func57 ntmps57 fun w0 ow0=> ?_;simp at hs hk;simp[go_sem];iterate 2 refine ai ?_
 grind[eG]
theorem UI (l:List Rec)(hs:l.length<=1048576)(hr:∀r∈l,u7 r):Fk 66 [iG l] (.val (dB (l.all aJ&&decide (l.length<=12)))):=by
 refine fE good [] func66 ntmps66 fun w0 ow0=> ?_;simp[go_sem];refine wl good (fun(i:Nat)=>[(0,.val (iG l)),(3,.val (dI i))]) (fun(i:Nat)=>(l).length-i) (fun(i:Nat)=>(i<=(l).length)/\(((l).take i).all aJ=true)) (0) ⟨(by omega),rfl⟩ ?_;rintro i ⟨h1,h2⟩;simp[go_sem];refine gw (fun a=> ?_) (fun a=> ?_)
 ·obtain⟨c,hc⟩:=aC (l:=l) (i:=i) (by omega);simp[go_sem,hc];refine ck (jP _ (hr c (List.mem_of_getElem? hc))) ?_;simp[go_sem];refine gw (fun b=> ?_) (fun b=> ?_)
  ·simp at b;have hn:=bO hc (P:=aJ) (by first|assumption|(simp;omega)|(simp[*];done)|(simp[aJ, *];done)|grind[aJ]|(simp[aJ];omega));simp[go_sem,hn]
  ·simp at b;simp[go_sem];refine ai ?_;refine nx (i+1) ⟨(by omega),(aM hc h2 (by first|assumption|(simp;omega)|(simp[*];done)|(simp[aJ, *];done)|grind[aJ]|(simp[aJ];omega)))⟩
 ·simp at a;have hf:=dM h2 a;simp[go_sem,hf];omega
abbrev aeQ (c:Con):D:= .agg [dI c.a,dI c.b,dB c.same]
abbrev yK (l:List Con):D:= .sl (some 117) (l.map aeQ)
abbrev bG (l:List Con):D:= .sl none (l.map aeQ)
theorem asV (a b c d:Int)(s t:Bool)(a' b':Int):Dv.EqAt prog 88 [.int .i64 a,.int .i64 b,.bool s,.int .i64 c] [.int .i64 a',.int .i64 b',.bool t,.int .i64 d] (decide (a=a'/\b=b'/\s=t/\c=d)):=by
 refine⟨by kernel_rfl,fun w=> ?_⟩;have u3:=underlying3;have a3:=Tryz.isAgg3;have z3:=Tryz.sizeOf3;have u4:=underlying4;have a4:=Tryz.isAgg4;have z4:=Tryz.sizeOf4;have hS:prog.underlying 88=some (.struct (prog.fieldsOf 88)):=by kernel_rfl
 have hp:prog.stoodInHeld 88=false:=by kernel_rfl
 rw[show(10000:Nat)=9999+1 from rfl,run_equalIn_agg w 9999 88 _ _ hS hp];simp only[Program.fieldsOf,underlying88]
 go_simp
 by_cases h1:a=a'<;>by_cases h2:b=b'<;>by_cases h3:s=t<;>by_cases h4:c=d<;>simp[h1,h2,h3,h4]
@[go_sem] theorem aB8 (a b c d:Int)(s t:Bool)(a' b':Int)(r:Bool):Dv.EqAt prog 88 [.int .i64 a,.int .i64 b,.bool s,.int .i64 c] [.int .i64 a',.int .i64 b',.bool t,.int .i64 d] r↔r=(decide (a=a'/\b=b'/\s=t/\c=d)):=(asV a b c d s t a' b').iff
theorem kZ (a b:Ver):Fk 110 [dP a,dP b] (.val (dI (bQ a b))):=by
 refine fE good [] func110 ntmps110 fun w0 ow0=> ?_;simp[go_sem];refine ck (tQ _ _) ?_;simp[go_sem];refine gw (fun h1=> ?_) (fun h1=> ?_)
 ·simp[go_sem];refine ck (tQ _ _) ?_;simp[go_sem];refine gw (fun h2=> ?_) (fun h2=> ?_)
  ·simp[go_sem];refine ck (tQ _ _) ?_;simp[go_sem];refine gv (fun g3=> ?_) (fun g3=> ?_)
   ·have g3':=g3;simp[go_sem,g3];refine gw (fun h4=> ?_) (fun h4=> ?_)
    ·simp at h4;simp[go_sem];refine gw (fun h5=> ?_) (fun h5=> ?_)
     ·simp[go_sem];grind[bQ]
     ·simp[go_sem];grind[bQ]
    ·simp at h4;simp[go_sem];grind[bQ]
   ·have g3':=g3;simp[go_sem,g3];grind[bQ]
  ·simp[go_sem];refine gv (fun g6=> ?_) (fun g6=> ?_)
   ·have g6':=g6;simp[go_sem,g6];refine gw (fun h7=> ?_) (fun h7=> ?_)
    ·simp at h7;simp[go_sem];refine gw (fun h8=> ?_) (fun h8=> ?_)
     ·simp[go_sem];omega
     ·simp[go_sem];omega
    ·simp at h7;simp[go_sem];omega
   ·have g6':=g6;simp[go_sem,g6];grind[bQ]
 ·simp[go_sem];refine gw (fun h9=> ?_) (fun h9=> ?_)
  ·simp[go_sem];refine ck (tQ _ _) ?_;simp[go_sem];refine gv (fun g10=> ?_) (fun g10=> ?_)
   ·have g10':=g10;simp[go_sem,g10];refine gw (fun h11=> ?_) (fun h11=> ?_)
    ·simp at h11;simp[go_sem];refine gw (fun h12=> ?_) (fun h12=> ?_)
     ·simp[go_sem];omega
     ·simp[go_sem];omega
    ·simp at h11;simp[go_sem];omega
   ·have g10':=g10;simp[go_sem,g10];omega
  ·simp[go_sem];refine gv (fun g13=> ?_) (fun g13=> ?_)
   ·have g13':=g13;simp[go_sem,g13];refine gw (fun h14=> ?_) (fun h14=> ?_)
    ·simp at h14;simp[go_sem];refine gw (fun h15=> ?_) (fun h15=> ?_)
     ·simp[go_sem];omega
     ·simp[go_sem];omega
    ·simp at h14;simp[go_sem];omega
   ·have g13':=g13;simp[go_sem,g13];grind[bQ]
theorem ZL (l:List Ver)(v:Ver)(hs:l.length<=1048576:=by first|assumption|omega|(simp;omega)|grind):Fk 111 [aU l,dP v] (.val (dI (ix (fun y=>decide (y=v)) l))):=by
 refine fE good [] func111 ntmps111 fun w0 ow0=> ?_;simp[go_sem];refine wl good (fun(i:Nat)=>[(0,.val (aU l)),(3,.own (.bx true (dP v))),(5,.val (dI i))]) (fun(i:Nat)=>(l).length-i) (fun(i:Nat)=>(i<=(l).length)/\(((l).take i).any (fun y=>decide (y=v))=false)) (0) ⟨(by omega),rfl⟩ ?_;rintro i ⟨h1,h2⟩;simp[go_sem];refine gw (fun a=> ?_) (fun a=> ?_)
 ·obtain⟨c,hc⟩:=aC (l:=l) (i:=i) (by omega);simp[go_sem];refine wdr good ?_;simp[go_sem,hc];refine gw (fun b=> ?_) (fun b=> ?_)
  ·simp at b;have hn:=vH hc h2 (by cases c;cases v;simp_all);simp[go_sem,hn]
  ·simp at b;simp[go_sem];refine ai ?_;refine nx (i+1) ⟨(by omega),(eX hc h2 (by cases c;cases v;simp_all))⟩
 ·simp at a;have hf:=j5 h2 a;have hx:=lX hf;simp[go_sem,hx]
theorem jF (g:List (List Int))(x:Int)(hs:g.length<=1048576:=by first|assumption|omega|(simp;omega)|grind)(hg:∀l∈g,l.length<=1048576:=by first|assumption|omega|(simp;omega)|grind):Fk 69 [aL g,dI x] (.val (dI (bB g x))):=by
 refine fE good [] func69 ntmps69 fun w0 ow0=> ?_;simp[go_sem];refine wl good (fun(i:Nat)=>[(0,.val (aL g)),(1,.val (dI x)),(5,.val (dI i))]) (fun(i:Nat)=>(g).length-i) (fun(i:Nat)=>(i<=(g).length)/\(((g).take i).any (grp x)=false)) (0) ⟨(by omega),rfl⟩ ?_;rintro i ⟨h1,h2⟩;simp[go_sem];refine gw (fun a=> ?_) (fun a=> ?_)
 ·obtain⟨c,hc⟩:=aC (l:=g) (i:=i) (by omega);simp[go_sem,hc];refine ck (mF _ _ (hg c (List.mem_of_getElem? hc))) ?_;simp[go_sem];refine gw (fun b=> ?_) (fun b=> ?_)
  ·have hx:bB g x=i:=vH hc h2 (eH.1 b);simp[go_sem,hx]
  ·simp at b;simp[go_sem];refine ai ?_;refine nx (i+1) ⟨(by omega),(eX hc h2 (by rw[Bool.eq_false_iff];intro h;have:=eH.2 h;unfold grp at*;omega))⟩
 ·simp at a;have hx:bB g x= -1:=lX (j5 h2 a);simp[go_sem,hx]
theorem QN (g:List (List Int))(l:List Ver)(hs:g.length<=1048576)(hg:∀l∈g,l.length<=1048576)(hl:l.length<=1048576):Fk 63 [aL g,aU l] (.val (dB (l.all (tL g)))):=by
 refine fE good [] func63 ntmps63 fun w0 ow0=> ?_;simp[go_sem];refine wl good (fun(i:Nat)=>[(0,.val (aL g)),(1,.val (aU l)),(5,.val (dI i))]) (fun(i:Nat)=>(l).length-i) (fun(i:Nat)=>(i<=(l).length)/\(((l).take i).all (tL g)=true)) (0) ⟨(by omega),rfl⟩ ?_;rintro i ⟨h1,h2⟩;simp[go_sem];refine gw (fun a=> ?_) (fun a=> ?_)
 ·obtain⟨c,hc⟩:=aC (l:=l) (i:=i) (by omega);simp[go_sem,hc];refine ck (jF _ _) ?_;simp[go_sem];refine gv (fun e=> ?_) (fun e=> ?_)
  ·have e':=e;simp[go_sem,hc,e];refine ck (jF _ _) ?_;simp[go_sem];refine gw (fun b=> ?_) (fun b=> ?_)
   ·have hn:=bO hc (P:=(tL g)) (by simp[tL,b];omega);simp[go_sem,hn]
   ·simp[go_sem];refine ai ?_;refine nx (i+1) ⟨(by omega),(aM hc h2 (by simp[tL,b,e]))⟩
  ·have e':=e;simp at e';simp[go_sem,e];refine ai ?_;refine nx (i+1) ⟨(by omega),(aM hc h2 (by simp[tL,e]))⟩
 ·simp at a;have hf:=dM h2 a;simp[go_sem,hf]
theorem iW (s:Sco)(hs:s.weights.length<=1048576:=by first|assumption|omega|(simp;omega)|grind):Fk 54 [xK s] (.val (dB (fG s))):=by
 refine fE good [] func54 ntmps54 fun w0 ow0=> ?_;simp[go_sem];refine wl good (fun(i:Nat)=>[(1,.own (.bx true (xK s))),(3,.val (dI (s.weights.take i).sum)),(4,.val (dI i))]) (fun(i:Nat)=>(s.weights).length-i) (fun(i:Nat)=>(i<=(s.weights).length)/\((s.weights.take i).all vZ=true)/\(0<=(s.weights.take i).sum/\(s.weights.take i).sum<=9*i)) (0) ⟨(by omega),rfl,(by simp)⟩ ?_;rintro i ⟨h1,h2,h3⟩;simp[go_sem];refine gw (fun a=> ?_) (fun a=> ?_)
 ·obtain⟨c,hc⟩:=aC (l:=s.weights) (i:=i) (by omega);simp[go_sem,hc];refine ck (aH _ _ _) ?_;simp[go_sem];refine gw (fun b=> ?_) (fun b=> ?_)
  ·simp at b;have hn:=bO hc (P:=vZ) (by simp[vZ];omega);simp[go_sem];grind[fG]
  ·simp at b;have hsum:(s.weights.take (i+1)).sum=(s.weights.take i).sum+c:=by rw[aW hc];simp
   simp[go_sem,hc];iterate 2 refine ai ?_
   refine nx (i+1) ⟨(by omega),(aM hc h2 (by simp[vZ];omega)),(by omega)⟩ (h3:=by simp[go_sem,hc,hsum])
 ·simp at a;have hf:=dM h2 a;rw[aO a];simp[go_sem];refine gv (fun g1=> ?_) (fun g1=> ?_)
  ·have g1':=g1;simp[go_sem,g1];refine gv (fun g2=> ?_) (fun g2=> ?_)
   ·have g2':=g2;simp[go_sem,g2];refine ck (aH _ _ _) ?_;simp[go_sem];grind[fG]
   ·have g2':=g2;simp at g2';simp[go_sem,g2];grind[fG]
  ·have g1':=g1;simp[go_sem,g1];grind[fG]
theorem oP (l:List Ver)(hs:l.length<=1048576:=by first|assumption|omega|(simp;omega)|grind):Fk 59 [aU l] (.val (dB (eO l))):=by
 refine fE good [] func59 ntmps59 fun w0 ow0=> ?_;simp[go_sem];refine wl good (fun(i:Nat)=>[(0,.val (aU l)),(3,.val (dI i))]) (fun(i:Nat)=>(l).length-i) (fun(i:Nat)=>(i<=(l).length)/\((l.take i).all bH=true)/\(adj (fun a b=>decide (bQ a b<0)) (l.take i)=true)) (0) ⟨(by omega),rfl,rfl⟩ ?_;rintro i ⟨h1,h2,h3⟩;simp[go_sem];refine gw (fun a=> ?_) (fun a=> ?_)
 ·obtain⟨c,hc⟩:=aC (l:=l) (i:=i) (by omega);simp[go_sem];refine wdr good ?_;simp[go_sem,hc];refine cd (qU _) ?_;simp[go_sem];refine gv (fun e=> ?_) (fun e=> ?_)
  ·have e':=e;simp at e';have hn:=bO hc (P:=bH) (by simpa using e);simp[go_sem,e];grind[eO]
  ·have e':=e;simp at e';simp[go_sem,e];refine gv (fun f=> ?_) (fun f=> ?_)
   ·have f':=f;obtain⟨p,hp⟩:=aC (l:=l) (i:=i-1) (by omega);have hi1:i-1+1=i:=by omega
    simp[go_sem,hc,f,hp];iterate 2 refine ai ?_
    refine cd (kZ _ _) ?_;simp[go_sem];refine gw (fun b=> ?_) (fun b=> ?_)
    ·have hn:=ER hp (by rw[hi1];exact hc) (R:=fun a b=>decide (bQ a b<0)) (by simp;omega);simp[go_sem];grind[eO]
    ·simp at b;simp[go_sem];refine ai ?_;refine nx (i+1) ⟨(by omega),(aM hc h2 (by simpa using e)),(by have:=uV (i:=i-1) (by rw[hi1];exact h3) hp (by rw[hi1];exact hc) (by simp;omega);rwa [hi1]at this)⟩
   ·have f':=f;simp at f';simp[go_sem,f];refine ai ?_;refine nx (i+1) ⟨(by omega),(aM hc h2 (by simpa using e)),(by obtain rfl:i=0:=(by omega);exact qK)⟩
 ·simp at a;have hf:=dM h2 a;rw[aO a]at h3;simp[go_sem];grind[eO]
def arC (l:List Str):Prop:=l.length<=9223372036854775807/\∀x∈l,x.length<=9223372036854775807
def akD (l:List Str)(left:Int):Prop:=(l.length:Int)<=left/\∀x∈l,(x.length:Int)<=left
theorem anN {l:List Str}{a b:Int}(h:akD l a)(hab:a<=b):akD l b:=⟨by have:=h.1;omega,fun x hx=>by have:=h.2 x hx;omega⟩
def as9 (l:List Rec):Prop:=l.length<=9223372036854775807/\∀o∈l,arC o.fields
def aA5 (l:List Rec)(left:Int):Prop:=(l.length:Int)<=left/\∀o∈l,akD o.fields left
def al4 (l:List (List Tst)):Prop:=l.length<=9223372036854775807/\∀o∈l,o.length<=9223372036854775807
def axD (l:List (List Tst))(left:Int):Prop:=(l.length:Int)<=left/\∀o∈l,(o.length:Int)<=left
theorem UD (l:List Tst)(left:Int)(hl:l.length<=9223372036854775807)(h0:0<=left/\left<=1048576):bR prog 178 [.sl none (l.map lJ),dI left] (fun r=>∃v:Int,r= .val (dI v)/\(-1<=v/\v<=left)/\(0<=v->(l.length:Int)<=left)):=by
 refine fE good [] func178 ntmps178 fun w0 ow0=> ?_;simp[go_sem];refine ai ?_;refine gw (fun e=> ?_) (fun e=> ?_)
 ·simp[go_sem];omega
 ·simp at e;simp[go_sem];refine ai ?_;omega
theorem YT (l:List Tst)(left:Int)(hl:l.length<=9223372036854775807)(h0:0<=left/\left<=1048576):bR prog 106 [mZ l,dI left] (fun r=>∃v:Int,r= .val (dI v)/\(-1<=v/\v<=left)/\(0<=v->(l.length:Int)<=left)):=by
 refine fE good [] func106 ntmps106 fun w0 ow0=> ?_;simp[go_sem];refine bP (UD l left hl h0) (by simp[go_sem]) ?_;rintro r ⟨v,rfl,hv,hf⟩;refine⟨by simp[go_sem],?_⟩;simp[go_sem];refine gw (fun b=> ?_) (fun b=> ?_)
 ·simp[go_sem];omega
 ·simp at b;have hfit:=hf (by omega);simp[go_sem,hfit];refine ai ?_;omega
theorem UL (l:List (List Tst))(left:Int)(hl:al4 l)(h0:0<=left/\left<=1048576):bR prog 51 [.sl none (l.map mZ),dI left] (fun r=>∃v:Int,r= .val (dI v)/\(-1<=v/\v<=left)/\(0<=v->axD l left)):=by
 refine fE good [] func51 ntmps51 fun w0 ow0=> ?_;have hl1:=hl.1;simp[go_sem];refine ai ?_;refine gw (fun e=> ?_) (fun e=> ?_)
 ·simp[go_sem];omega
 ·simp at e;simp[go_sem];refine wl good (fun(x':(Nat)×(Int))=>match x' with|(i,L)=>[(0,.val (.sl none (l.map mZ))),(1,.val (dI L)),(5,.val (dI i))]) (fun(x':(Nat)×(Int))=>match x' with|(i,L)=>l.length-i) (fun(x':(Nat)×(Int))=>match x' with|(i,L)=>(i<=l.length)/\(0<=L/\L<=left-l.length)/\(∀o∈l.take i,(o.length:Int)<=left)) ((0,left-l.length)) ⟨(by omega),(by omega),(by simp)⟩ ?_;rintro⟨i,L⟩ ⟨h1,h2,h3⟩;simp[go_sem];refine gw (fun a=> ?_) (fun a=> ?_)
  ·obtain⟨c,hc⟩:=aC (l:=l) (i:=i) (by omega);have hcl:=hl.2 c (List.mem_of_getElem? hc);simp[go_sem,hc];refine bP (YT c L hcl (by omega)) (by simp[go_sem]) ?_;rintro r ⟨v,rfl,hv,hf⟩;refine⟨by simp[go_sem],?_⟩;simp[go_sem];refine gw (fun b=> ?_) (fun b=> ?_)
   ·simp[go_sem];omega
   ·simp at b;have hfc:=hf (by omega);simp[go_sem];refine ai ?_;refine nx (i+1,v) ⟨(by omega),(by omega),(by rw[aW hc];intro x hx;rcases List.mem_append.1 hx with hx|hx;(exact h3 x hx);(obtain rfl:=List.mem_singleton.1 hx;omega))⟩
  ·simp at a;have hfit:axD l left:=⟨by omega,by rwa [aO (by omega)]at h3⟩;simp[go_sem,hfit];refine ai ?_;omega
theorem PM (l:List (List Tst))(left:Int)(hl:al4 l)(h0:0<=left/\left<=1048576):bR prog 20 [gG l,dI left] (fun r=>∃v:Int,r= .val (dI v)/\(-1<=v/\v<=left)/\(0<=v->axD l left)):=by
 refine fE good [] func20 ntmps20 fun w0 ow0=> ?_;simp[go_sem];refine bP (UL l left hl h0) (by simp[go_sem]) ?_;rintro r ⟨v,rfl,hv,hf⟩;refine⟨by simp[go_sem],?_⟩;simp[go_sem];refine gw (fun b=> ?_) (fun b=> ?_)
 ·simp[go_sem];omega
 ·simp at b;have hfit:=hf (by omega);simp[go_sem,hfit];refine ai ?_;omega
theorem II (l:List Int)(left:Int)(hl:l.length<=9223372036854775807)(h0:0<=left/\left<=1048576):bR prog 22 [nInts l,dI left] (fun r=>∃v:Int,r= .val (dI v)/\(-1<=v/\v<=left)/\(0<=v->(l.length:Int)<=left)):=by
 refine fE good [] func22 ntmps22 fun w0 ow0=> ?_;simp[go_sem];refine ai ?_;refine gw (fun e=> ?_) (fun e=> ?_)
 ·simp[go_sem];omega
 ·simp at e;simp[go_sem];refine ai ?_;omega
theorem NR (s:Sco)(left:Int)(hl:s.weights.length<=9223372036854775807)(h0:0<=left/\left<=1048576):bR prog 21 [xK s,dI left] (fun r=>∃v:Int,r= .val (dI v)/\(-1<=v/\v<=left)/\(0<=v->(s.weights.length:Int)<=left)):=by
 refine fE good [] func21 ntmps21 fun w0 ow0=> ?_;simp[go_sem];refine bP (II s.weights left hl h0) (by simp[go_sem]) ?_;rintro r ⟨v,rfl,hv,hf⟩;refine⟨by simp[go_sem],?_⟩;simp[go_sem];refine gw (fun b=> ?_) (fun b=> ?_)
 ·simp[go_sem];omega
 ·simp at b;have hfit:=hf (by omega);simp[go_sem,hfit];refine ai ?_;omega
theorem LM (l:List Ver)(left:Int)(hl:l.length<=9223372036854775807)(h0:0<=left/\left<=1048576):bR prog 24 [aU l,dI left] (fun r=>∃v:Int,r= .val (dI v)/\(-1<=v/\v<=left)/\(0<=v->(l.length:Int)<=left)):=by
 refine fE good [] func24 ntmps24 fun w0 ow0=> ?_;simp[go_sem];refine ai ?_;refine gw (fun e=> ?_) (fun e=> ?_)
 ·simp[go_sem];omega
 ·simp at e;simp[go_sem];refine ai ?_;omega
theorem MQ (l:List Str)(left:Int)(hl:arC l)(h0:0<=left/\left<=1048576):bR prog 107 [bD l,dI left] (fun r=>∃v:Int,r= .val (dI v)/\(-1<=v/\v<=left)/\(0<=v->akD l left)):=by
 refine fE good [] func107 ntmps107 fun w0 ow0=> ?_;have hl1:=hl.1;simp[go_sem];refine ai ?_;refine gw (fun e=> ?_) (fun e=> ?_)
 ·simp[go_sem];omega
 ·simp at e;simp[go_sem];refine wl good (fun(x':(Nat)×(Int))=>match x' with|(i,L)=>[(0,.val (bD l)),(1,.val (dI L)),(5,.val (dI i))]) (fun(x':(Nat)×(Int))=>match x' with|(i,L)=>l.length-i) (fun(x':(Nat)×(Int))=>match x' with|(i,L)=>(i<=l.length)/\(0<=L/\L<=left-l.length)/\(∀x∈l.take i,(x.length:Int)<=left)) ((0,left-l.length)) ⟨(by omega),(by omega),(by simp)⟩ ?_;rintro⟨i,L⟩ ⟨h1,h2,h3⟩;simp[go_sem];refine gw (fun a=> ?_) (fun a=> ?_)
  ·obtain⟨c,hc⟩:=aC (l:=l) (i:=i) (by omega);have hcl:=hl.2 c (List.mem_of_getElem? hc);simp[go_sem,hc];refine ai ?_;refine gw (fun b=> ?_) (fun b=> ?_)
   ·simp[go_sem];omega
   ·simp at b;simp[go_sem];refine ai ?_;refine nx (i+1,L-c.length) ⟨(by omega),(by omega),(by rw[aW hc];intro x hx;rcases List.mem_append.1 hx with hx|hx;(exact h3 x hx);(obtain rfl:=List.mem_singleton.1 hx;omega))⟩
  ·simp at a;have hfit:akD l left:=⟨by omega,by rwa [aO (by omega)]at h3⟩;simp[go_sem,hfit];refine ai ?_;omega
theorem QA (r:Rec)(left:Int)(hl:arC r.fields)(h0:0<=left/\left<=1048576):bR prog 52 [tY r,dI left] (fun x=>∃v:Int,x= .val (dI v)/\(-1<=v/\v<=left)/\(0<=v->akD r.fields left)):=by
 refine fE good [] func52 ntmps52 fun w0 ow0=> ?_;simp[go_sem];refine bP (MQ r.fields left hl h0) (by simp[go_sem]) ?_;rintro r ⟨v,rfl,hv,hf⟩;refine⟨by simp[go_sem],?_⟩;simp[go_sem];refine gw (fun b=> ?_) (fun b=> ?_)
 ·simp[go_sem];omega
 ·simp at b;have hfit:=hf (by omega);simp[go_sem,hfit];refine ai ?_;omega
theorem NU (l:List Rec)(left:Int)(hl:as9 l)(h0:0<=left/\left<=1048576):bR prog 23 [iG l,dI left] (fun r=>∃v:Int,r= .val (dI v)/\(-1<=v/\v<=left)/\(0<=v->aA5 l left)):=by
 refine fE good [] func23 ntmps23 fun w0 ow0=> ?_;have hl1:=hl.1;simp[go_sem];refine ai ?_;refine gw (fun e=> ?_) (fun e=> ?_)
 ·simp[go_sem];omega
 ·simp at e;simp[go_sem];refine wl good (fun(x':(Nat)×(Int))=>match x' with|(i,L)=>[(0,.val (iG l)),(1,.val (dI L)),(5,.val (dI i))]) (fun(x':(Nat)×(Int))=>match x' with|(i,L)=>l.length-i) (fun(x':(Nat)×(Int))=>match x' with|(i,L)=>(i<=l.length)/\(0<=L/\L<=left-l.length)/\(∀o∈l.take i,akD o.fields left)) ((0,left-l.length)) ⟨(by omega),(by omega),(by simp)⟩ ?_;rintro⟨i,L⟩ ⟨h1,h2,h3⟩;simp[go_sem];refine gw (fun a=> ?_) (fun a=> ?_)
  ·obtain⟨c,hc⟩:=aC (l:=l) (i:=i) (by omega);have hcl:=hl.2 c (List.mem_of_getElem? hc);simp[go_sem,hc];refine bP (QA c L hcl (by omega)) (by simp[go_sem]) ?_;rintro r ⟨v,rfl,hv,hf⟩;refine⟨by simp[go_sem],?_⟩;simp[go_sem];refine gw (fun b=> ?_) (fun b=> ?_)
   ·simp[go_sem];omega
   ·simp at b;have hfc:=anN (hf (by omega)) (show L<=left by omega);simp[go_sem];refine ai ?_;refine nx (i+1,v) ⟨(by omega),(by omega),(by rw[aW hc];intro x hx;rcases List.mem_append.1 hx with hx|hx;(exact h3 x hx);(obtain rfl:=List.mem_singleton.1 hx;exact hfc))⟩
  ·simp at a;have hfit:aA5 l left:=⟨by omega,by rwa [aO (by omega)]at h3⟩;simp[go_sem,hfit];refine ai ?_;omega
def uF {α:Type}(f:α->D)(z:D)(l:List α)(i:Nat):List D:=(l.take i).map f++List.replicate (l.length-i) z
section
variable {α:Type}{f:α->D}{z:D}{l:List α}{i:Nat}{c:α}
theorem wK (h:i<=l.length):(uF f z l i).length=l.length:=by simp[uF];omega
theorem wJ (h:i<l.length):(uF f z l i)[i]?=some z:=by
 unfold uF;rw[List.getElem?_append_right (by simp;omega)];rw[List.length_map,List.length_take,Nat.min_eq_left (by omega),Nat.sub_self,List.getElem?_replicate,if_pos (by omega)]
theorem wF (h:l[i]?=some c):(uF f z l i).set i (f c)=uF f z l (i+1):=by
 have hi:=aS h;unfold uF;have hl:((l.take i).map f).length=i:=by simp;omega
 rw[List.set_append,if_neg (by omega),hl,Nat.sub_self,nC f h,show l.length-i=(l.length-(i+1))+1 by omega,List.replicate_succ];simp
theorem sD:List.replicate l.length z=uF f z l 0:=by simp[uF]
theorem wH:uF f z l l.length=l.map f:=by simp[uF]
end
theorem WE (t:Tst):Fk 253 [lJ t] (.val (lJ t)):=by
 refine fE good [] func253 ntmps253 fun w0 ow0=> ?_;simp[go_sem]
theorem TQ (l:List Tst)(hl:l.length<=1048576):Fk 198 [.sl none (l.map lJ)] (.own (.sl (some 150) (l.map lJ))):=by
 refine fE good [] func198 ntmps198 fun w0 ow0=> ?_;have hz:=sD (f:=lJ) (z:=(.agg [dI 0,dI 0,dB false])) (l:=l);simp[go_sem,hz];refine ai ?_;refine wl good (fun(i:Nat)=>[(0,.val (.sl none (l.map lJ))),(3,.own (.sl (some 150) (uF lJ (.agg [dI 0,dI 0,dB false]) l i))),(4,.val (dI i))]) (fun(i:Nat)=>l.length-i) (fun(i:Nat)=>(i<=l.length)) (0) (by omega) ?_;rintro i h1;simp[go_sem];refine gw (fun a=> ?_) (fun a=> ?_)
 ·obtain⟨c,hc⟩:=aC (l:=l) (i:=i) (by omega);have hg:=wJ (f:=lJ) (z:=(.agg [dI 0,dI 0,dB false])) (l:=l) (i:=i) (by omega);have hfl:=wK (f:=lJ) (z:=(.agg [dI 0,dI 0,dB false])) h1;have hst:=wF (f:=lJ) (z:=(.agg [dI 0,dI 0,dB false])) hc;simp[go_sem,hc];refine ck (WE c) ?_;simp[go_sem,hg,hst];refine ai ?_;refine nx (i+1) (by first|omega|(simp;omega)|grind)
 ·simp at a;obtain rfl:i=l.length:=by omega
  have hfa:=wH (f:=lJ) (z:=(.agg [dI 0,dI 0,dB false])) (l:=l);simp[go_sem,hfa]
abbrev pE (l:List Tst):D:= .agg [.sl (some 150) (l.map lJ)]
theorem XN (l:List Tst)(hl:l.length<=1048576):Fk 138 [mZ l] (.own (pE l)):=by
 refine fE good [] func138 ntmps138 fun w0 ow0=> ?_;simp[go_sem];refine ck (TQ l hl) ?_;simp[go_sem]
theorem UG (l:List (List Tst))(hl:l.length<=1048576)(hs:∀t∈l,t.length<=1048576):Fk 86 [.sl none (l.map mZ)] (.own (.sl (some 148) (l.map pE))):=by
 refine fE good [] func86 ntmps86 fun w0 ow0=> ?_;have hz:=sD (f:=pE) (z:=(.agg [.sl (some 150) []])) (l:=l);simp[go_sem,hz];refine ai ?_;refine wl good (fun(i:Nat)=>[(0,.val (.sl none (l.map mZ))),(3,.own (.sl (some 148) (uF pE (.agg [.sl (some 150) []]) l i))),(4,.val (dI i))]) (fun(i:Nat)=>l.length-i) (fun(i:Nat)=>(i<=l.length)) (0) (by omega) ?_;rintro i h1;simp[go_sem];refine gw (fun a=> ?_) (fun a=> ?_)
 ·obtain⟨c,hc⟩:=aC (l:=l) (i:=i) (by omega);have hg:=wJ (f:=pE) (z:=(.agg [.sl (some 150) []])) (l:=l) (i:=i) (by omega);have hfl:=wK (f:=pE) (z:=(.agg [.sl (some 150) []])) h1;have hst:=wF (f:=pE) (z:=(.agg [.sl (some 150) []])) hc;simp[go_sem,hc];refine ck (XN c (hs c (List.mem_of_getElem? hc))) ?_;simp[go_sem,hg,hst];refine ai ?_;refine nx (i+1) (by first|omega|(simp;omega)|grind)
 ·simp at a;obtain rfl:i=l.length:=by omega
  have hfa:=wH (f:=pE) (z:=(.agg [.sl (some 150) []])) (l:=l);simp[go_sem,hfa]
theorem OD (l:List (List Tst))(hl:l.length<=1048576)(hs:∀t∈l,t.length<=1048576):Fk 33 [gG l] (.own (.agg [.sl (some 148) (l.map pE)])):=by
 refine fE good [] func33 ntmps33 fun w0 ow0=> ?_;simp[go_sem];refine ck (UG l hl hs) ?_;simp[go_sem]
theorem FK (l:List Int)(hl:l.length<=1048576):Fk 35 [nInts l] (.own (aD l)):=by
 refine fE good [] func35 ntmps35 fun w0 ow0=> ?_;have hz:=sD (f:=dI) (z:=(dI 0)) (l:=l);simp[go_sem,hz];refine ai ?_;refine wl good (fun(i:Nat)=>[(0,.val (nInts l)),(3,.own (.sl (some 3) (uF dI (dI 0) l i))),(4,.val (dI i))]) (fun(i:Nat)=>l.length-i) (fun(i:Nat)=>(i<=l.length)) (0) (by omega) ?_;rintro i h1;simp[go_sem];refine gw (fun a=> ?_) (fun a=> ?_)
 ·obtain⟨c,hc⟩:=aC (l:=l) (i:=i) (by omega);have hg:=wJ (f:=dI) (z:=(dI 0)) (l:=l) (i:=i) (by omega);have hfl:=wK (f:=dI) (z:=(dI 0)) h1;have hst:=wF (f:=dI) (z:=(dI 0)) hc;simp[go_sem,hc,hg,hst];refine ai ?_;refine nx (i+1) (by first|omega|(simp;omega)|grind)
 ·simp at a;obtain rfl:i=l.length:=by omega
  have hfa:=wH (f:=dI) (z:=(dI 0)) (l:=l);simp[go_sem,hfa]
theorem OA (s:Sco)(hl:s.weights.length<=1048576):Fk 34 [xK s] (.own (.agg [aD s.weights,dI s.bias])):=by
 refine fE good [] func34 ntmps34 fun w0 ow0=> ?_;simp[go_sem];refine ck (FK s.weights hl) ?_;simp[go_sem]
theorem P6 (l:List Str)(hl:l.length<=1048576):Fk 139 [bD l] (.own (oG l)):=by
 refine fE good [] func139 ntmps139 fun w0 ow0=> ?_;have hz:=sD (f:=dS) (z:=(dS [])) (l:=l);simp[go_sem,hz];refine ai ?_;refine wl good (fun(i:Nat)=>[(0,.val (bD l)),(3,.own (.sl (some 9) (uF dS (dS []) l i))),(4,.val (dI i))]) (fun(i:Nat)=>l.length-i) (fun(i:Nat)=>(i<=l.length)) (0) (by omega) ?_;rintro i h1;simp[go_sem];refine gw (fun a=> ?_) (fun a=> ?_)
 ·obtain⟨c,hc⟩:=aC (l:=l) (i:=i) (by omega);have hg:=wJ (f:=dS) (z:=(dS [])) (l:=l) (i:=i) (by omega);have hfl:=wK (f:=dS) (z:=(dS [])) h1;have hst:=wF (f:=dS) (z:=(dS [])) hc;simp[go_sem,hc,hg,hst];refine ai ?_;refine nx (i+1) (by first|omega|(simp;omega)|grind)
 ·simp at a;obtain rfl:i=l.length:=by omega
  have hfa:=wH (f:=dS) (z:=(dS [])) (l:=l);simp[go_sem,hfa]
abbrev oRec (r:Rec):D:= .agg [dI r.source,dI r.key,dI r.version,oG r.fields]
theorem RP (r:Rec)(hl:r.fields.length<=1048576):Fk 87 [tY r] (.own (oRec r)):=by
 refine fE good [] func87 ntmps87 fun w0 ow0=> ?_;simp[go_sem];refine ck (P6 r.fields hl) ?_;simp[go_sem]
theorem OB (l:List Rec)(hl:l.length<=1048576)(hs:∀r∈l,r.fields.length<=1048576):Fk 36 [iG l] (.own (.sl (some 104) (l.map oRec))):=by
 refine fE good [] func36 ntmps36 fun w0 ow0=> ?_;have hz:=sD (f:=oRec) (z:=(.agg [dI 0,dI 0,dI 0,.sl (some 9) []])) (l:=l);simp[go_sem,hz];refine ai ?_;refine wl good (fun(i:Nat)=>[(0,.val (iG l)),(3,.own (.sl (some 104) (uF oRec (.agg [dI 0,dI 0,dI 0,.sl (some 9) []]) l i))),(4,.val (dI i))]) (fun(i:Nat)=>l.length-i) (fun(i:Nat)=>(i<=l.length)) (0) (by omega) ?_;rintro i h1;simp[go_sem];refine gw (fun a=> ?_) (fun a=> ?_)
 ·obtain⟨c,hc⟩:=aC (l:=l) (i:=i) (by omega);have hg:=wJ (f:=oRec) (z:=(.agg [dI 0,dI 0,dI 0,.sl (some 9) []])) (l:=l) (i:=i) (by omega);have hfl:=wK (f:=oRec) (z:=(.agg [dI 0,dI 0,dI 0,.sl (some 9) []])) h1;have hst:=wF (f:=oRec) (z:=(.agg [dI 0,dI 0,dI 0,.sl (some 9) []])) hc;simp[go_sem,hc];refine ck (RP c (hs c (List.mem_of_getElem? hc))) ?_;simp[go_sem,hg,hst];refine ai ?_;refine nx (i+1) (by first|omega|(simp;omega)|grind)
 ·simp at a;obtain rfl:i=l.length:=by omega
  have hfa:=wH (f:=oRec) (z:=(.agg [dI 0,dI 0,dI 0,.sl (some 9) []])) (l:=l);simp[go_sem,hfa]
theorem PG (v:Ver):Fk 88 [dP v] (.val (dP v)):=by
 refine fE good [] func88 ntmps88 fun w0 ow0=> ?_;simp[go_sem]
theorem KP (l:List Ver)(hl:l.length<=1048576):Fk 37 [aU l] (.own (bN l)):=by
 refine fE good [] func37 ntmps37 fun w0 ow0=> ?_;have hz:=sD (f:=dP) (z:=(.agg [dI 0,dI 0,dB false,dI 0])) (l:=l);simp[go_sem,hz];refine ai ?_;refine wl good (fun(i:Nat)=>[(0,.val (aU l)),(3,.own (.sl (some 88) (uF dP (.agg [dI 0,dI 0,dB false,dI 0]) l i))),(4,.val (dI i))]) (fun(i:Nat)=>l.length-i) (fun(i:Nat)=>(i<=l.length)) (0) (by omega) ?_;rintro i h1;simp[go_sem];refine gw (fun a=> ?_) (fun a=> ?_)
 ·obtain⟨c,hc⟩:=aC (l:=l) (i:=i) (by omega);have hg:=wJ (f:=dP) (z:=(.agg [dI 0,dI 0,dB false,dI 0])) (l:=l) (i:=i) (by omega);have hfl:=wK (f:=dP) (z:=(.agg [dI 0,dI 0,dB false,dI 0])) h1;have hst:=wF (f:=dP) (z:=(.agg [dI 0,dI 0,dB false,dI 0])) hc;simp[go_sem,hc];refine ck (PG c) ?_;simp[go_sem,hg,hst];refine ai ?_;refine nx (i+1) (by first|omega|(simp;omega)|grind)
 ·simp at a;obtain rfl:i=l.length:=by omega
  have hfa:=wH (f:=dP) (z:=(.agg [dI 0,dI 0,dB false,dI 0])) (l:=l);simp[go_sem,hfa]
theorem X7 (t:Tst):Fk 297 [lJ t,lJ t] (.val (dB true)):=by
 refine fE good [] func297 ntmps297 fun w0 ow0=> ?_;simp[go_sem]
theorem UH (l:List Tst)(hl:l.length<=1048576):Fk 240 [.sl none (l.map lJ),.sl none (l.map lJ)] (.val (dB true)):=by
 refine fE good [] func240 ntmps240 fun w0 ow0=> ?_;simp[go_sem];refine wl good (fun(i:Nat)=>[(0,.val (.sl none (l.map lJ))),(1,.val (.sl none (l.map lJ))),(5,.val (dI i))]) (fun(i:Nat)=>l.length-i) (fun(i:Nat)=>(i<=l.length)) (0) (by omega) ?_;rintro i h1;simp[go_sem];refine gw (fun a=> ?_) (fun a=> ?_)
 ·obtain⟨c,hc⟩:=aC (l:=l) (i:=i) (by omega);simp[go_sem];refine wdr good ?_;simp[go_sem,hc];refine cd (X7 c) ?_;simp[go_sem];refine ai ?_;refine nx (i+1) (by first|omega|(simp;omega)|grind)
 ·simp at a;simp[go_sem]
theorem WO (l:List Tst)(hl:l.length<=1048576):Fk 174 [mZ l,mZ l] (.val (dB true)):=by
 refine fE good [] func174 ntmps174 fun w0 ow0=> ?_;simp[go_sem];refine ck (UH l hl) ?_;simp[go_sem]
theorem TS (l:List (List Tst))(hl:l.length<=1048576)(hs:∀t∈l,t.length<=1048576):Fk 102 [.sl none (l.map mZ),.sl none (l.map mZ)] (.val (dB true)):=by
 refine fE good [] func102 ntmps102 fun w0 ow0=> ?_;simp[go_sem];refine wl good (fun(i:Nat)=>[(0,.val (.sl none (l.map mZ))),(1,.val (.sl none (l.map mZ))),(5,.val (dI i))]) (fun(i:Nat)=>l.length-i) (fun(i:Nat)=>(i<=l.length)) (0) (by omega) ?_;rintro i h1;simp[go_sem];refine gw (fun a=> ?_) (fun a=> ?_)
 ·obtain⟨c,hc⟩:=aC (l:=l) (i:=i) (by omega);simp[go_sem];refine wdr good ?_;simp[go_sem,hc];refine cd (WO c (hs c (List.mem_of_getElem? hc))) ?_;simp[go_sem];refine ai ?_;refine nx (i+1) (by first|omega|(simp;omega)|grind)
 ·simp at a;simp[go_sem]
theorem MX (l:List (List Tst))(hl:l.length<=1048576)(hs:∀t∈l,t.length<=1048576):Fk 43 [gG l,gG l] (.val (dB true)):=by
 refine fE good [] func43 ntmps43 fun w0 ow0=> ?_;simp[go_sem];refine ck (TS l hl hs) ?_;simp[go_sem]
theorem xB (l:List Int)(hl:l.length<=1048576):Fk 41 [nInts l,nInts l] (.val (dB true)):=by
 refine fE good [] func41 ntmps41 fun w0 ow0=> ?_;simp[go_sem];refine wl good (fun(i:Nat)=>[(0,.val (nInts l)),(1,.val (nInts l)),(5,.val (dI i))]) (fun(i:Nat)=>l.length-i) (fun(i:Nat)=>(i<=l.length)) (0) (by omega) ?_;rintro i h1;simp[go_sem];refine gw (fun a=> ?_) (fun a=> ?_)
 ·obtain⟨c,hc⟩:=aC (l:=l) (i:=i) (by omega);simp[go_sem];refine wdr good ?_;simp[go_sem,hc];refine ai ?_;refine nx (i+1) (by first|omega|(simp;omega)|grind)
 ·simp at a;simp[go_sem]
theorem vC (l:List (List Int))(hl:l.length<=1048576)(hs:∀t∈l,t.length<=1048576):Fk 10 [aL l,aL l] (.val (dB true)):=by
 refine fE good [] func10 ntmps10 fun w0 ow0=> ?_;simp[go_sem];refine wl good (fun(i:Nat)=>[(0,.val (aL l)),(1,.val (aL l)),(5,.val (dI i))]) (fun(i:Nat)=>l.length-i) (fun(i:Nat)=>(i<=l.length)) (0) (by omega) ?_;rintro i h1;simp[go_sem];refine gw (fun a=> ?_) (fun a=> ?_)
 ·obtain⟨c,hc⟩:=aC (l:=l) (i:=i) (by omega);simp[go_sem];refine wdr good ?_;simp[go_sem,hc];refine cd (xB c (hs c (List.mem_of_getElem? hc))) ?_;simp[go_sem];refine ai ?_;refine nx (i+1) (by first|omega|(simp;omega)|grind)
 ·simp at a;simp[go_sem]
theorem PD (s:Sco)(hl:s.weights.length<=1048576):Fk 44 [xK s,xK s] (.val (dB true)):=by
 refine fE good [] func44 ntmps44 fun w0 ow0=> ?_;simp[go_sem];refine ck (xB s.weights hl) ?_;simp[go_sem]
theorem Q3 (c:Cfg)(hl:c.rules.length<=1048576)(hs:∀t∈c.rules,t.length<=1048576)(hw:c.sco.weights.length<=1048576)(hv:c.surv.length<=1048576):Fk 12 [F6 c,F6 c] (.val (dB true)):=by
 refine fE good [] func12 ntmps12 fun w0 ow0=> ?_;simp[go_sem];refine ck (MX c.rules hl hs) ?_;simp[go_sem];refine ck (PD c.sco hw) ?_;simp[go_sem];refine ck (xB c.surv hv) ?_;simp[go_sem]
theorem NI (l:List Str)(hl:l.length<=1048576):Fk 175 [bD l,bD l] (.val (dB true)):=by
 refine fE good [] func175 ntmps175 fun w0 ow0=> ?_;simp[go_sem];refine wl good (fun(i:Nat)=>[(0,.val (bD l)),(1,.val (bD l)),(5,.val (dI i))]) (fun(i:Nat)=>l.length-i) (fun(i:Nat)=>(i<=l.length)) (0) (by omega) ?_;rintro i h1;simp[go_sem];refine gw (fun a=> ?_) (fun a=> ?_)
 ·obtain⟨c,hc⟩:=aC (l:=l) (i:=i) (by omega);simp[go_sem];refine wdr good ?_;simp[go_sem,hc];refine ai ?_;refine nx (i+1) (by first|omega|(simp;omega)|grind)
 ·simp at a;simp[go_sem]
theorem RL (r:Rec)(hl:r.fields.length<=1048576):Fk 103 [tY r,tY r] (.val (dB true)):=by
 refine fE good [] func103 ntmps103 fun w0 ow0=> ?_;simp[go_sem];refine ck (NI r.fields hl) ?_;simp[go_sem]
theorem PR (l:List Rec)(hl:l.length<=1048576)(hs:∀r∈l,r.fields.length<=1048576):Fk 45 [iG l,iG l] (.val (dB true)):=by
 refine fE good [] func45 ntmps45 fun w0 ow0=> ?_;simp[go_sem];refine wl good (fun(i:Nat)=>[(0,.val (iG l)),(1,.val (iG l)),(5,.val (dI i))]) (fun(i:Nat)=>l.length-i) (fun(i:Nat)=>(i<=l.length)) (0) (by omega) ?_;rintro i h1;simp[go_sem];refine gw (fun a=> ?_) (fun a=> ?_)
 ·obtain⟨c,hc⟩:=aC (l:=l) (i:=i) (by omega);simp[go_sem];refine wdr good ?_;simp[go_sem,hc];refine cd (RL c (hs c (List.mem_of_getElem? hc))) ?_;simp[go_sem];refine ai ?_;refine nx (i+1) (by first|omega|(simp;omega)|grind)
 ·simp at a;simp[go_sem]
theorem NG (v:Ver):Fk 42 [dP v,dP v] (.val (dB true)):=by
 refine fE good [] func42 ntmps42 fun w0 ow0=> ?_;simp[go_sem]
theorem l7 (l:List Ver)(hl:l.length<=1048576):Fk 11 [aU l,aU l] (.val (dB true)):=by
 refine fE good [] func11 ntmps11 fun w0 ow0=> ?_;simp[go_sem];refine wl good (fun(i:Nat)=>[(0,.val (aU l)),(1,.val (aU l)),(5,.val (dI i))]) (fun(i:Nat)=>l.length-i) (fun(i:Nat)=>(i<=l.length)) (0) (by omega) ?_;rintro i h1;simp[go_sem];refine gw (fun a=> ?_) (fun a=> ?_)
 ·obtain⟨c,hc⟩:=aC (l:=l) (i:=i) (by omega);simp[go_sem];refine wdr good ?_;simp[go_sem,hc];refine cd (NG c) ?_;simp[go_sem];refine ai ?_;refine nx (i+1) (by first|omega|(simp;omega)|grind)
 ·simp at a;simp[go_sem]
theorem UQ (s:Sto)(hl:s.recs.length<=1048576)(hs:∀r∈s.recs,r.fields.length<=1048576)(hv:s.vers.length<=1048576):Fk 13 [xZ s,xZ s] (.val (dB true)):=by
 refine fE good [] func13 ntmps13 fun w0 ow0=> ?_;simp[go_sem];refine ck (PR s.recs hl hs) ?_;simp[go_sem];refine ck (l7 s.vers hv) ?_;simp[go_sem]
end Go.Proofs.YtnglphdfhegnmaaGreatDoor
end
section
namespace Go.Pl
open Go.Dv
def cK (c:UInt8):UInt8:=if 65<=c.toNat/\c.toNat<=90 then c+32 else c
def nH (s:Str):Str:=s.map cK
def nN (c:UInt8):Bool:=(decide (97<=c.toNat)&&decide (c.toNat<=122))||(decide (65<=c.toNat)&&decide (c.toNat<=90))||(decide (48<=c.toNat)&&decide (c.toNat<=57))
def qW (c:UInt8):Str:=if nN c=true\/c.toNat=32 then[c]else if c.toNat≠39 then[32]else[]
def oI (s:Str):Str:=s.flatMap qW
def kC (s:Str)(i:Nat)(o:Str):Str:=if(s.getD i 0).toNat=32 then o else(if 0<o.length/\(s.getD (i-1) 0).toNat=32 then o++[32]else o)++[s.getD i 0]
def uD (s:Str):Str:=loopN s.length [] (kC s)
def normal (s:Str):Str:=uD (oI (nH s))
theorem UV {c:UInt8}(h1:65<=c.toNat)(h2:c.toNat<=90):(cK c).toNat=c.toNat+32:=by
 unfold cK;rw[if_pos ⟨h1,h2⟩,UInt8.toNat_add];simp;omega
theorem IQ {c:UInt8}(h:¬(65<=c.toNat/\c.toNat<=90)):cK c=c:=if_neg h
theorem AB (s:Str):(nH s).length=s.length:=by simp[nH]
theorem ahL (c:UInt8):(qW c).length<=1:=by
 unfold qW;split<;>simp;split<;>simp
theorem CG (s:Str):(oI s).length<=s.length:=by
 unfold oI
 induction s with
 |nil=>simp
 |cons c s ih=>have:=ahL c;simp only[List.flatMap_cons,List.length_append,List.length_cons];omega
theorem P5 (s:Str):(uD s).length<=2*s.length:=by
 refine loopN_inv (fun i (o:Str)=>o.length<=2*i) (by simp) fun i o _ ho=> ?_;unfold kC;split
 ·omega
 ·split<;>simp<;>omega
theorem abM {α β:Type}(f:α->List β){l:List α}{i:Nat}{c:α}(h:l[i]?=some c):(l.take (i+1)).flatMap f=(l.take i).flatMap f++f c:=by rw[aW h];simp
theorem O3 {s:Str}{i:Nat}{c:UInt8}(h:s[i]?=some c):s.getD i 0=c:=by simp[List.getD_eq_getElem?_getD,h]
end Go.Pl
namespace Go.Pl
open Go.Dv
def KL (c:UInt8)(p:Str):Str->List Str
 |[]=>[p]
 |d::s=>if d=c then p::KL c [] s else KL c (p++[d]) s
def VK (c:UInt8)(s:Str):List Str:=KL c [] s
theorem H7 (c:UInt8):∀(s p:Str),(KL c p s).length<=s.length+1/\∀x∈KL c p s,x.length<=p.length+s.length
 |[],p=>by simp[KL]
 |d::s,p=>by
  unfold KL;split
  ·have⟨h1,h2⟩:=H7 c s [];refine⟨by simp;omega,fun x hx=> ?_⟩;rcases List.mem_cons.1 hx with rfl|hx
   ·omega
   ·have:=h2 x hx;simp at this|-;omega
  ·have⟨h1,h2⟩:=H7 c s (p++[d]);refine⟨by simp;omega,fun x hx=> ?_⟩;have:=h2 x hx;simp at this|-;omega
theorem adU (c:UInt8)(s:Str):(VK c s).length<=s.length+1/\∀x∈VK c s,x.length<=s.length:=by
 have⟨h1,h2⟩:=H7 c s [];exact⟨h1,fun x hx=>by have:=h2 x hx;simpa using this⟩
def codeOf (d:Nat):Int:=if d=98\/d=102\/d=112\/d=118 then 1 else if d=99\/d=103\/d=106\/d=107\/d=113\/d=115\/d=120\/d=122 then 2 else if d=100\/d=116 then 3 else if d=108 then 4 else if d=109\/d=110 then 5 else if d=114 then 6 else if d=97\/d=101\/d=105\/d=111\/d=117\/d=121 then 0 else if d=104\/d=119 then -1 else -2
def aB (c:UInt8):Int:=codeOf (cK c).toNat
theorem NC (c:UInt8): -2<=aB c/\aB c<=6:=by
 unfold aB codeOf;repeat(first|omega|split)
def mO (s:Str×Int)(c:UInt8):Str×Int:=if s.1=[]then([cK c],aB c)else(if aB c>0/\aB c≠s.2/\s.1.length<4 then s.1++[UInt8.ofNat (48+aB c).toNat]else s.1,if 0<=aB c then aB c else s.2)
def UJ (o:Str):Str:=o++List.replicate (4-o.length) 48
def dH (s:Str):Str:=if s=[]\/s.all (fun c=>decide (aB c≠ -2))=false then[]else UJ (s.foldl mO ([],0)).1
end Go.Pl
end
section
namespace Go.Pl
open Go.Dv
def rY (l:List Str)(x:Str):Nat:=(l.takeWhile fun y=>ltL y x).length
def dQ (l:List Str)(x:Str)(again:Bool):List Str:=if !again&&decide (l[rY l x]?=some x)then l else l.take (rY l x)++[x]++l.drop (rY l x)
theorem aq3 (l:List Str)(x:Str):rY l x<=l.length:=by
 unfold rY;exact(List.takeWhile_prefix _).length_le
theorem kI (l:List Str)(x:Str)(b:Bool):(dQ l x b).length<=l.length+1:=by
 have:=aq3 l x;unfold dQ;split
 ·omega
 ·simp;omega
def nQ (t:List Str)(x:Str):List Str:=if x≠[]then dQ t x false else t
def tokens (s:Str):List Str:=(VK 32 (normal s)).foldl nQ []
theorem afZ (t:List Str)(x:Str):(nQ t x).length<=t.length+1:=by
 unfold nQ;split
 ·exact kI _ _ _
 ·omega
def oF (t:List Str)(x:Str):List Str:=if dH x≠[]then dQ t (dH x) false else t
def fQ (s:Str):List Str:=(tokens s).foldl oF []
def JE (c:Str):Bool:=decide (c≠[])&&c.all nN&&decide (nH c=c)
def jM (l:List Str):Bool:=l.all JE&&adj ltL l
def mY (a b:List Str):Bool:=jM a&&jM b
def yF (b:List Str)(t:List Str)(x:Str):List Str:=if b.any (fun y=>decide (y=x))=true then dQ t x false else t
def common (a b:List Str):List Str:=a.foldl (yF b) []
def nZ (t:List Str)(x:Str):List Str:=dQ t x false
def NA (a b:List Str):List Str:=b.foldl nZ (a.foldl nZ [])
def rD (a b:List Str):Int:=if mY a b=true then ratio (common a b).length (NA a b).length else 0
def lG (a b:List Str):Int:=if a=[]\/b=[]then 0 else rD a b
def gL (a b c:Int):Int:=if inR a 0 9999=true/\inR b 0 9999=true/\inR c 1 9999=true then(if max a b-min a b>=c then 0 else(1000*(c-(max a b-min a b))).tdiv c)else 0
def digits (s:Str):Str:=s.filter fun c=>decide (48<=c.toNat/\c.toNat<=57)
theorem wI {α β:Type}(f:List α->β->List α)(h:∀t x,(f t x).length<=t.length+1):∀(l:List β) (t:List α),(l.foldl f t).length<=t.length+l.length
 |[],t=>by simp
 |x::l,t=>by have:=wI f h l (f t x);have:=h t x;simp only[List.foldl_cons,List.length_cons];omega
end Go.Pl
end
section
namespace Go.Pl
open Go.Dv
def chr (s:Str)(i:Nat):UInt8:=s.getD i 0
theorem qN {s:Str}{i:Nat}(h:i<s.length):s[i]?=some (chr s i):=by
 obtain⟨c,hc⟩:=aC h;rw[chr,O3 hc];exact hc
def edOne (x y:Str)(T:List (List Int))(i:Nat)(r:List Int)(j:Nat):Int:=
 if i=0 then j else if j=0 then i else if chr x (i-1)=chr y (j-1)then at2 T (i-1) (j-1)else 1+min (min (at2 T (i-1) j) (at1 r (j-1))) (at2 T (i-1) (j-1))
def mX (x y:Str)(tr:Bool)(i j:Nat):Bool:=tr&&decide (i>1)&&decide (j>1)&&decide (chr x (i-1)=chr y (j-2))&&decide (chr x (i-2)=chr y (j-1))
def aaS (x y:Str)(tr:Bool)(T:List (List Int))(i j:Nat)(r:List Int):List Int:=if mX x y tr i j=true then r.set j (min (at1 r j) (at2 T (i-2) (j-2)+1))else r
def xO (x y:Str)(tr:Bool)(T:List (List Int))(i j:Nat)(r:List Int):List Int:=aaS x y tr T i j (r.set j (edOne x y T i r j))
def XD (x y:Str)(tr:Bool)(i:Nat)(T:List (List Int)):List Int:=loopN (y.length+1) (List.replicate (y.length+1) 0) (xO x y tr T i)
def IM (x y:Str)(tr:Bool):List (List Int):=loopN (x.length+1) [] fun i T=>T++[XD x y tr i T]
def acL (n k i:Nat)(r:List Int):Prop:=r.length=n/\∀j<k,0<=at1 r j/\at1 r j<=i+j
def SK (n:Nat)(T:List (List Int)):Prop:=∀i<T.length,acL n n i (T.getD i [])
theorem uI {n:Nat}{T:List (List Int)}(h:SK n T){i j:Nat}(hi:i<T.length)(hj:j<n):∃r,T[i]?=some r/\r[j]?=some (at2 T i j)/\0<=at2 T i j/\at2 T i j<=i+j:=by
 obtain⟨r,hr⟩:=aC hi;have h1:=h i hi;rw[List.getD_eq_getElem?_getD,hr]at h1;obtain⟨h2,h3⟩:=h1;simp only[Option.getD_some]at h2 h3;have h4:=aF (l:=r) (i:=j) (by omega);have h5:at2 T i j=at1 r j:=by simp[at2,at1,List.getD_eq_getElem?_getD,hr]
 exact⟨r,hr,by rw[h5];exact h4,by rw[h5];exact(h3 j hj).1,by rw[h5];exact(h3 j hj).2⟩
theorem pQ {r:List Int}{j:Nat}{v:Int}(k:Nat)(hj:j<r.length):at1 (r.set j v) k=if j=k then v else at1 r k:=by
 simp only[at1,List.getD_eq_getElem?_getD,List.getElem?_set];by_cases h:j=k
 ·subst h;simp[hj]
 ·simp[h]
theorem MU {n k i:Nat}{r:List Int}{v:Int}(h:acL n k i r)(hk:k<n)(h1:0<=v)(h2:v<=i+k):acL n (k+1) i (r.set k v):=by
 refine⟨by simp[h.1],fun j hj=> ?_⟩;rw[pQ _ (by rw[h.1];exact hk)];split
 ·omega
 ·exact h.2 j (by omega)
theorem XB {n:Nat}{T:List (List Int)}{r:List Int}(h:SK n T)(hr:acL n n T.length r):SK n (T++[r]):=by
 intro i hi;simp only[List.length_append,List.length_singleton]at hi;rw[List.getD_eq_getElem?_getD];by_cases h1:i<T.length
 ·rw[List.getElem?_append_left h1];have:=h i h1
  rwa [List.getD_eq_getElem?_getD]at this
 ·obtain rfl:i=T.length:=by omega
  simp;exact hr
theorem azY {x y:Str}{T:List (List Int)}{r:List Int}{i j n:Nat}(hT:T.length=i)(h4:SK n T)(hr:acL n j i r)(hj:j<n)(hi:0<=(i:Int)):0<=edOne x y T i r j/\edOne x y T i r j<=i+j:=by
 unfold edOne;split
 ·omega
 ·split
  ·omega
  ·obtain⟨q,hq,hqj,hb1,hb2⟩:=uI h4 (i:=i-1) (j:=j-1) (by omega) (by omega);obtain⟨q',hq',hqk,hb3,hb4⟩:=uI h4 (i:=i-1) (j:=j) (by omega) (by omega);have hb5:=hr.2 (j-1) (by omega);split
   ·omega
   ·omega
theorem al0 {x y:Str}{tr:Bool}{T:List (List Int)}{r:List Int}{i j n:Nat}(hT:T.length=i)(h4:SK n T)(hr:acL n j i r)(hj:j<n):acL n (j+1) i (xO x y tr T i j r):=by
 have hve:=azY (x:=x) (y:=y) hT h4 hr hj (by omega);have h1:=MU hr hj hve.1 hve.2;unfold xO aaS;generalize r.set j (edOne x y T i r j)=r' at h1|-
 split
 ·next hw=>
  simp only[mX,Bool.and_eq_true,decide_eq_true_eq]at hw;obtain⟨q,hq,hqj,hb1,hb2⟩:=uI h4 (i:=i-2) (j:=j-2) (by omega) (by omega);have hb3:=h1.2 j (by omega);exact MU ⟨h1.1,fun j' hj'=>h1.2 j' (by omega)⟩ hj (by omega) (by omega)
 ·exact h1
theorem XW (x y:Str)(tr:Bool):(IM x y tr).length=x.length+1/\SK (y.length+1) (IM x y tr):=by
 refine loopN_inv (fun i (T:List (List Int))=>T.length=i/\SK (y.length+1) T) ⟨rfl,fun i hi=>by simp at hi⟩ fun i T hi ⟨h1,h2⟩=>⟨by simp[h1],XB h2 ?_⟩;rw[h1];exact loopN_inv (fun j r=>acL (y.length+1) j i r) ⟨by simp,by omega⟩ fun j r hj hr=>al0 h1 h2 hr hj
def xC (x y:Str):Bool:=decide (x.length<=40)&&decide (y.length<=40)
def jR (x y:Str):Int:=if xC x y=true then at2 (IM x y false) x.length y.length else -1
theorem aaX (x y:Str): -1<=jR x y/\jR x y<=80:=by
 unfold jR;split
 ·next h=>
  simp only[xC,Bool.and_eq_true,decide_eq_true_eq]at h;have h1:=XW x y false;obtain⟨q,hq,hqj,hb1,hb2⟩:=uI h1.2 (i:=x.length) (j:=y.length) (by omega) (by omega);omega
 ·omega
def nR (x y:Str):Int:=if jR x y<0 then 0 else if max (x.length:Int) y.length=0 then 1000 else(1000*(max (x.length:Int) y.length-jR x y)).tdiv (max (x.length:Int) y.length)
def jJ (x y:Str):Int:=if normal x=[]\/normal y=[]then 0 else nR (normal x) (normal y)
theorem AC {a b:Int}(h1: -9000000000000000000<=a)(h:a<=9000000000000000000):inI .i64 (a.tdiv b):=by
 have:=Int.natAbs_tdiv_le_natAbs a b;simp only[inI];omega
end Go.Pl
namespace Go.Pl
open Go.Dv
def fA (m:Nat):Str:=if h:m=0 then[]else fA (m/10)++[UInt8.ofNat (48+m % 10)]
termination_by m
decreasing_by omega
theorem lY {m:Nat}(h:m≠0):fA m=fA (m/10)++[UInt8.ofNat (48+m % 10)]:=by rw[fA,dif_neg h]
theorem lK:fA 0=[]:=by rw[fA];simp
def oL (n:Int):Str:=if n=0 then[48]else(if n<0 then[45]else[])++fA n.natAbs
theorem BN (m k:Nat)(h:m<10^k):(fA m).length<=k:=by
 induction k generalizing m with
 |zero=>
  have:m=0:=by simpa using h
  subst this;simp[lK]
 |succ k ih=>
  by_cases h0:m=0
  ·subst h0;simp[lK]
  ·rw[lY h0];have:=ih (m/10) (by rw[Nat.pow_succ]at h;omega);simp;omega
end Go.Pl
namespace Go.Pl
open Go.Dv
def yQ (st:Int×Int)(c:UInt8):Int×Int:=if 48<=c.toNat/\c.toNat<=57 then(st.1*10+(c.toNat-48),st.2+1)else st
def kT (s:Str):Int×Int:=(s.take 11).foldl yQ (0,0)
def fI (s:Str):Int:=if s[0]?=some 45 then-(kT s).1 else(kT s).1
def gP (s:Str):Bool:=decide ((kT s).2<=9)&&decide (s.length<=10)&&decide (oL (fI s)=s)
def dE (s:Str):Int:=if gP s=true/\inR (fI s) 1000 9999=true then fI s else 0
end Go.Pl
namespace Go.Pl
open Go.Dv
def shared:Str->Str->Nat
 |a::s,b::t=>if a=b then shared s t+1 else 0
 |_,_=>0
def x9 (p q:Str):Int:=
 if p.length<4\/q.length<4\/shared p.reverse q.reverse<4 then 0
 else if shared p.reverse q.reverse=p.length/\shared p.reverse q.reverse=q.length then 1000
 else if shared p.reverse q.reverse>=7\/shared p.reverse q.reverse=p.length\/shared p.reverse q.reverse=q.length then 800 else 400
def kJ (x y:Str):Int:=x9 (digits x) (digits y)
theorem VE {s:Str}{i:Nat}(h:i<s.length):s[s.length-1-i]?=some (chr s.reverse i):=by
 have h1:=qN (s:=s.reverse) (i:=i) (by simpa using h);rw[←h1,List.getElem?_reverse h]
theorem SA {p q:Str}{i:Nat}(hp:i<p.length)(hq:i<q.length):shared (p.drop i) (q.drop i)=if chr p i=chr q i then shared (p.drop (i+1)) (q.drop (i+1))+1 else 0:=by
 rw[List.drop_eq_getElem_cons hp,List.drop_eq_getElem_cons hq,shared];have h1:=qN hp;have h2:=qN hq;rw[List.getElem?_eq_getElem hp]at h1;rw[List.getElem?_eq_getElem hq]at h2;rw[Option.some.inj h1,Option.some.inj h2]
theorem CS {p q:Str}{i:Nat}(h:p.length<=i\/q.length<=i):shared (p.drop i) (q.drop i)=0:=by
 rcases h with h|h
 ·rw[List.drop_eq_nil_of_le h];unfold shared;rfl
 ·rw[List.drop_eq_nil_of_le h];cases p.drop i<;>rfl
end Go.Pl
end
section
namespace Go.Pl
open Go.Dv
def fld (r:Rec)(i:Nat):Str:=r.fields.getD i []
def kY (x y:Str):Int:=if 0<dE x/\0<dE y then gL (dE x) (dE y) 10 else 0
def uY (a b:Rec):List Int:=[jJ (fld a 0) (fld b 0),lG (tokens (fld a 0)) (tokens (fld b 0)),lG (fQ (fld a 0)) (fQ (fld b 0)),jJ (fld a 1) (fld b 1),kY (fld a 2) (fld b 2),kJ (fld a 3) (fld b 3)]
def recAt (l:List Rec)(i:Nat):Rec:=l.getD i default
theorem I7 {l:List Rec}{i:Nat}(h:i<l.length):l[i]?=some (recAt l i):=by simp[recAt,List.getD_eq_getElem?_getD,h]
def fF (l:List Rec)(rs:List (List Tst))(s:Sco)(i k:Nat):Int:=if i=k then 0 else cO rs s (uY (recAt l (min i k)) (recAt l (max i k)))
def nT (l:List Rec)(rs:List (List Tst))(s:Sco)(i:Nat):List Int:=(List.range l.length).map (fF l rs s i)
def weights (l:List Rec)(rs:List (List Tst))(s:Sco):List (List Int):=(List.range l.length).map (nT l rs s)
theorem Q4 {α:Type}(f:Nat->α)(k:Nat):(List.range (k+1)).map f=(List.range k).map f++[f k]:=by simp[List.range_succ]
theorem bU {r:Rec}(h:aJ r=true):r.fields.length=4/\∀i,i<4->r.fields[i]?=some (fld r i)/\(fld r i).length<=40:=by
 simp only[aJ,Bool.and_eq_true,decide_eq_true_eq,List.all_eq_true]at h;refine⟨h.2,fun i hi=> ?_⟩;have h1:r.fields[i]?=some (fld r i):=by simp[fld,List.getD_eq_getElem?_getD,h.2,hi]
 refine⟨h1,?_⟩;have h2:=h.1.1.1.1 _ (List.mem_of_getElem? h1);simp only[fC,isText,Bool.and_eq_true,decide_eq_true_eq]at h2;exact h2.2.2
def xQ {α:Type}(p:α->Bool)(l:List α):Nat:=(l.reverse.takeWhile p).length
def eU {α:Type}(p:α->Bool)(l:List α)(v:α):List α:=l.take (l.length-xQ p l)++[v]++l.drop (l.length-xQ p l)
theorem ag3 {α:Type}(p:α->Bool)(l:List α):xQ p l<=l.length:=by
 have:=(List.takeWhile_prefix (p:=p) (l:=l.reverse)).length_le;simpa[xQ]using this
theorem ES {α:Type}(p:α->Bool)(l:List α)(v:α):(eU p l v).length=l.length+1:=by
 have:=ag3 p l;simp[eU];omega
theorem G8 {α:Type}{p:α->Bool}{l:List α}{k:Nat}(hk:k<=l.length)(h1:∀j,k<=j->(h:j<l.length)->p l[j]=true)(h2:k=0\/∃c,l[k-1]?=some c/\p c=false):l.length-xQ p l=k:=by
 have h3:l=l.take k++l.drop k:=(List.take_append_drop k l).symm;have h4:l.reverse=(l.drop k).reverse++(l.take k).reverse:=by rw[←List.reverse_append,←h3]
 have h5:∀x∈(l.drop k).reverse,p x=true:=by
  intro x hx;rw[List.mem_reverse]at hx;obtain⟨j,hj⟩:=List.getElem?_of_mem hx;rw[List.getElem?_drop]at hj;have hlt:=(List.getElem?_eq_some_iff.1 hj).1;have:=h1 (k+j) (by omega) hlt;rw[List.getElem?_eq_getElem hlt]at hj
  rwa [Option.some.inj hj]at this
 have h6:((l.take k).reverse).takeWhile p=[]:=by
  rcases h2 with rfl|⟨c,hc,hp⟩
  ·simp
  ·by_cases hk0:k=0
   ·subst hk0;simp
   ·have h7:l.take k=l.take (k-1)++[c]:=by
     have:=aW hc
     rwa [show k-1+1=k by omega]at this
    rw[h7];simp[hp]
 have h8:xQ p l=(l.drop k).length:=by
  unfold xQ;rw[h4,List.takeWhile_append_of_pos h5,h6];simp
 rw[h8];simp;omega
def kQ (v u:Ver):Bool:=decide (0<bQ u v)
def bW (l:List Ver):List Ver:=l.foldl (fun out v=>eU (kQ v) out v) []
def sN (v u:Ver):Bool:=decide (u.time<v.time)
def lM (l:List Ver):List Ver:=l.foldl (fun out v=>eU (sN v) out v) []
theorem tV {α:Type}(p:α->α->Bool):∀(l t:List α),(l.foldl (fun out v=>eU (p v) out v) t).length=t.length+l.length
 |[],t=>by simp
 |x::l,t=>by rw[List.foldl_cons,tV p l,ES];simp;omega
def YY (l:List Ver)(v:Ver):Nat:=(l.takeWhile fun u=>decide (bQ u v<0)).length
def xJ (l:List Ver)(v:Ver):Bool:=eO l&&bH v&& !(l.any fun y=>decide (y=v))&&decide (l.length≠8)
def pW (l:List Ver)(v:Ver):List Ver:=if xJ l v=true then l.take (YY l v)++[v]++l.drop (YY l v)else l
theorem atH (l:List Ver)(v:Ver):YY l v<=l.length:=(List.takeWhile_prefix _).length_le
theorem adJ {α:Type}{p:α->Bool}{l:List α}{k:Nat}(hk:k<=l.length)(h1:(l.take k).all p=true)(h2:k=l.length\/∃c,l[k]?=some c/\p c=false):(l.takeWhile p).length=k:=by
 have h3:l=l.take k++l.drop k:=(List.take_append_drop k l).symm;have h5:∀x∈l.take k,p x=true:=List.all_eq_true.1 h1
 have h6:(l.drop k).takeWhile p=[]:=by
  rcases h2 with rfl|⟨c,hc,hp⟩
  ·simp
  ·have hlt:=(List.getElem?_eq_some_iff.1 hc).1;rw[List.drop_eq_getElem_cons hlt];rw[List.getElem?_eq_getElem hlt]at hc;rw[Option.some.inj hc];simp[hp]
 rw[h3,List.takeWhile_append_of_pos h5,h6];simp;omega
def mH (cannot:List Ver)(st:List (List Int)×List Ver×List Ver)(v:Ver):List (List Int)×List Ver×List Ver:=
 if cannot.all (tL (jB st.1 v.a v.b))=true then(jB st.1 v.a v.b,pW (bW st.2.1) v,st.2.2)else(st.1,st.2.1,st.2.2++[v])
def yT (l:List Ver):List (List Int)×List Ver×List Ver:=(lM (l8 (bS l))).foldl (mH (apart (bS l))) ([],apart (bS l),[])
def kH (l:List Ver):List Ver:=bW (yT l).2.1
def iD (l:List Ver):List Ver:=bW (yT l).2.2
def FY (g:List (List Int))(items:List Int)(i:Nat):Option Nat:=(List.range items.length).find? fun k=>decide (i<k)&&decide (bB g (at1 items k)=bB g (at1 items i))
def kM (g:List (List Int))(items:List Int)(i:Nat):List Con:=if 0<=bB g (at1 items i)then(match FY g items i with|some k=>[⟨i,k,true⟩]|none=>[])else[]
def zY (g:List (List Int))(items:List Int):List Con:=(List.range items.length).flatMap (kM g items)
def iI (kept:List Ver)(items:List Int):List Con:=zY (joined kept) items++vO (apart kept) items
theorem TC (g:List (List Int))(items:List Int)(i:Nat):(kM g items i).length<=1:=by
 unfold kM;split
 ·split<;>simp
 ·simp
def RG (l:List Int):Prop:=∀k<l.length,0<=at1 l k/\∀v,0<=v->v<at1 l k->∃j<k,at1 l j=v
theorem acX {a b:List Int}(hl:a.length=b.length)(h:∀k<a.length,at1 a k=at1 b k):a=b:=by
 refine List.ext_getElem? fun k=> ?_;by_cases hk:k<a.length
 ·rw[aF hk,aF (by omega),h k hk]
 ·rw[List.getElem?_eq_none (by omega),List.getElem?_eq_none (by omega)]
theorem RG.unique {a b:List Int}(hl:a.length=b.length)(ha:RG a)(hb:RG b)(h:∀i k,i<a.length->k<a.length->(at1 a i=at1 a k↔at1 b i=at1 b k)):a=b:=by
 refine acX hl fun k hk=> ?_
 induction k using Nat.strongRecOn with
 |_ k ih=>
  rcases Int.lt_trichotomy (at1 a k) (at1 b k)with hlt|he|hlt
  ·obtain⟨j,hj,e⟩:=(hb k (by omega)).2 (at1 a k) (ha k hk).1 hlt;have h1:=ih j hj (by omega);have h2:=(h j k (by omega) hk).1 (by omega);omega
  ·exact he
  ·obtain⟨j,hj,e⟩:=(ha k hk).2 (at1 b k) (hb k (by omega)).1 hlt;have h1:=ih j hj (by omega);have h2:=(h j k (by omega) hk).2 (by omega);omega
theorem aaE:∀(l:List Int) (top:Int) (pre:List Int), -1<=top->(∀v,0<=v->v<=top->∃j<pre.length,at1 pre j=v)->(∀j<pre.length,at1 pre j<=top)->RG (pre++l)->qV top l=true
 |[],_,_,_,_,_,_=>rfl
 |x::l,top,pre,ht,h1,h2,h=>by
  have hx:=h pre.length (by simp);have hat:at1 (pre++x::l) pre.length=x:=by simp[at1,List.getD_eq_getElem?_getD]
  have hpre:∀j<pre.length,at1 (pre++x::l) j=at1 pre j:=fun j hj=>by simp[at1,List.getD_eq_getElem?_getD,List.getElem?_append_left hj]
  rw[hat]at hx
  have hle:x<=top+1:=by
   rcases Int.lt_or_le (top+1) x with hlt|hle
   ·by_cases h0:0<=top+1
    ·obtain⟨j,hj,e⟩:=hx.2 (top+1) h0 hlt;rw[hpre j hj]at e;have:=h2 j hj;omega
    ·by_cases hx0:x=0
     ·omega
     ·obtain⟨j,hj,e⟩:=hx.2 0 (by omega) (by omega);rw[hpre j hj]at e;have:=h2 j hj;omega
   ·exact hle
  simp only[qV,Bool.and_eq_true,decide_eq_true_eq];refine⟨⟨hx.1,hle⟩,aaE l (max top x) (pre++[x]) (by omega) (fun v hv hvt=> ?_) (fun j hj=> ?_) (by simpa using h)⟩
  ·by_cases hvt2:v<=top
   ·obtain⟨j,hj,e⟩:=h1 v hv hvt2;exact⟨j,by simp;omega,by rw[←e];simp[at1,List.getD_eq_getElem?_getD,List.getElem?_append_left hj]⟩
   ·exact⟨pre.length,by simp,by simp[at1,List.getD_eq_getElem?_getD];omega⟩
  ·by_cases hj2:j<pre.length
   ·have:=h2 j hj2;have e:at1 (pre++[x]) j=at1 pre j:=by simp[at1,List.getD_eq_getElem?_getD,List.getElem?_append_left hj2]
    omega
   ·obtain rfl:j=pre.length:=by simp at hj;omega
    simp[at1,List.getD_eq_getElem?_getD];omega
theorem aa7:∀(l:List Int) (top:Int) (pre:List Int), -1<=top->(∀v,0<=v->v<=top->∃j<pre.length,at1 pre j=v)->RG pre->qV top l=true->RG (pre++l)
 |[],_,pre,_,_,h,_=>by simpa using h
 |x::l,top,pre,ht,h1,h,hp=>by
  simp only[qV,Bool.and_eq_true,decide_eq_true_eq]at hp;have:=aa7 l (max top x) (pre++[x]) (by omega) (fun v hv hvt=> ?_) (fun k hk=> ?_) hp.2
  ·simpa using this
  ·by_cases hvt2:v<=top
   ·obtain⟨j,hj,e⟩:=h1 v hv hvt2;exact⟨j,by simp;omega,by rw[←e];simp[at1,List.getD_eq_getElem?_getD,List.getElem?_append_left hj]⟩
   ·exact⟨pre.length,by simp,by simp[at1,List.getD_eq_getElem?_getD];omega⟩
  ·by_cases hk2:k<pre.length
   ·have e:∀j<pre.length,at1 (pre++[x]) j=at1 pre j:=fun j hj=>by simp[at1,List.getD_eq_getElem?_getD,List.getElem?_append_left hj]
    rw[e k hk2];refine⟨(h k hk2).1,fun v hv hvl=> ?_⟩;obtain⟨j,hj,e2⟩:=(h k hk2).2 v hv hvl;exact⟨j,hj,by rw[e j (by omega),e2]⟩
   ·obtain rfl:k=pre.length:=by simp at hk;omega
    have e:at1 (pre++[x]) pre.length=x:=by simp[at1,List.getD_eq_getElem?_getD]
    rw[e];refine⟨hp.1.1,fun v hv hvl=> ?_⟩;obtain⟨j,hj,e2⟩:=h1 v hv (by omega);exact⟨j,hj,by rw[←e2];simp[at1,List.getD_eq_getElem?_getD,List.getElem?_append_left hj]⟩
theorem isPart_iff {l:List Int}:bJ l=true↔RG l/\1<=l.length/\l.length<=8:=by
 simp only[bJ,Bool.and_eq_true,decide_eq_true_eq];constructor
 ·rintro⟨h1,h2⟩;have:=aa7 l (-1) [] (by omega) (fun v h1 h2=>by omega) (fun k hk=>by simp at hk) h1;exact⟨by simpa using this,by omega⟩
 ·rintro⟨h1,h2⟩;exact⟨aaE l (-1) [] (by omega) (fun v h1 h2=>by omega) (fun j hj=>by simp at hj) (by simpa using h1),by omega⟩
inductive Reach (n:Nat) (M:List (List Bool)):Nat->Nat->Prop
 |refl (i:Nat):Reach n M i i
 |step {i a b:Nat}:Reach n M i a->a<n->b<n->atB M a b=true->Reach n M i b
theorem Reach.trans {n:Nat}{M:List (List Bool)}{i a b:Nat}(h:Reach n M i a)(h2:Reach n M a b):Reach n M i b:=by
 induction h2 with
 |refl=>exact h
 |step _ ha hb hm ih=>exact .step ih ha hb hm
def aeM (n:Nat)(M:List (List Bool)):Prop:=∀a b,a<n->b<n->atB M a b=true->atB M b a=true
theorem Reach.symm {n:Nat}{M:List (List Bool)}(hs:aeM n M){i a:Nat}(h:Reach n M i a):Reach n M a i:=by
 induction h with
 |refl=>exact .refl _
 |step _ ha hb hm ih=>exact(Reach.step (.refl _) hb ha (hs _ _ ha hb hm)).trans ih
theorem Reach.lt {n:Nat}{M:List (List Bool)}{i a:Nat}(h:Reach n M i a)(hi:i<n):a<n:=by
 induction h with
 |refl=>exact hi
 |step _ _ hb _ _=>exact hb
theorem Reach.mono {n:Nat}{M M':List (List Bool)}(hm:∀a b,a<n->b<n->atB M a b=true->atB M' a b=true){i a:Nat}(h:Reach n M i a):Reach n M' i a:=by
 induction h with
 |refl=>exact .refl _
 |step _ ha hb h ih=>exact .step ih ha hb (hm _ _ ha hb h)
def uZ (n:Nat)(M:List (List Bool))(l:List Int):Prop:=l.length=n/\RG l/\∀i k,i<n->k<n->(at1 l i=at1 l k↔Reach n M i k)
theorem uZ.unique {n:Nat}{M:List (List Bool)}{a b:List Int}(ha:uZ n M a)(hb:uZ n M b):a=b:=
 RG.unique (by rw[ha.1,hb.1]) ha.2.1 hb.2.1 fun i k hi hk=>by
  rw[ha.1]at hi hk;rw[ha.2.2 i k hi hk,hb.2.2 i k hi hk]
structure Spr (n:Nat) (M:List (List Bool)) (x:Int) (o o':List Int):Prop where
 len:o'.length=o.length
 old:∀k<n,at1 o k=x->at1 o' k=x
 new:∀k<n,at1 o' k=at1 o k\/(at1 o' k=x/\∃s<n,at1 o s=x/\Reach n M s k)
theorem Spr.refl {n:Nat}{M:List (List Bool)}{x:Int}(o:List Int):Spr n M x o o:=⟨rfl,fun _ _ h=>h,fun _ _=> .inl rfl⟩
theorem Spr.trans {n:Nat}{M:List (List Bool)}{x:Int}{a b c:List Int}(h:Spr n M x a b)(h':Spr n M x b c):Spr n M x a c:=by
 refine⟨h'.len.trans h.len,fun k hk e=>h'.old k hk (h.old k hk e),fun k hk=> ?_⟩;rcases h'.new k hk with e|⟨e,s,hs,e2,hr⟩
 ·rw[e];exact h.new k hk
 ·refine .inr ⟨e,?_⟩;rcases h.new s hs with e3|⟨_,t,ht,e4,hr2⟩
  ·exact⟨s,hs,by omega,hr⟩
  ·exact⟨t,ht,e4,hr2.trans hr⟩
theorem VD {n:Nat}{M:List (List Bool)}{x:Int}{a b:Nat}{o:List Int}(hl:o.length=n)(ha:a<n)(hb:b<n):Spr n M x o (spB M x a b o)/\(at1 o a=x->atB M a b=true->at1 (spB M x a b o) b=x):=by
 unfold spB;split
 ·rename_i h;have hs:=fun k=>pQ (r:=o) (j:=b) (v:=x) k (by omega);refine⟨⟨by simp,fun k hk e=>by rw[hs];split<;>simp_all,fun k hk=> ?_⟩,fun _ _=>by rw[hs,if_pos rfl]⟩;rw[hs];split
  ·subst_vars;exact .inr ⟨rfl,a,ha,h.1,.step (.refl _) ha hb h.2⟩
  ·exact .inl rfl
 ·rename_i h;exact⟨.refl o,fun h1 h2=>absurd ⟨h1,h2⟩ h⟩
theorem IY {n m:Nat}{M:List (List Bool)}{x:Int}{f:Nat->List Int->List Int}(hf:∀i o,i<m->o.length=n->Spr n M x o (f i o)){o:List Int}(hl:o.length=n):Spr n M x o (loopN m o f):=by
 refine loopN_inv (fun _ o'=>Spr n M x o o') (.refl o) fun i o' hi h=>h.trans (hf i o' hi (h.len.trans hl))
theorem ac9 {n:Nat}{M:List (List Bool)}{x:Int}{a:Nat}(ha:a<n){o:List Int}(hl:o.length=n):Spr n M x o (spA n M x a o):=IY (fun i o hi hl=>(VD hl ha hi).1) hl
theorem IR {n:Nat}{M:List (List Bool)}{x:Int}{t:Nat}{o:List Int}(hl:o.length=n):Spr n M x o (spS n M x t o):=IY (fun i o hi hl=>ac9 hi hl) hl
theorem aaN {m i:Nat}{f:Nat->List Int->List Int}{o:List Int}(hi:i<m)(R:List Int->List Int->Prop)(hr:∀o,R o o)(ht:∀a b c,R a b->R b c->R a c)(n:Nat)(hl:o.length=n)(hlen:∀i o,i<m->o.length=n->(f i o).length=n/\R o (f i o)):∃p,R o p/\p.length=n/\R (f i p) (loopN m o f):=by
 induction m with
 |zero=>omega
 |succ m ih=>
  have hall:∀k≤m,(loopN k o f).length=n/\R o (loopN k o f):=by
   intro k hk
   induction k with
   |zero=>exact⟨hl,hr o⟩
   |succ k ihk=>
    rw[aA];have h1:=ihk (by omega);have h2:=hlen k _ (by omega) h1.1;exact⟨h2.1,ht _ _ _ h1.2 h2.2⟩
  rw[aA];by_cases him:i=m
  ·subst him;exact⟨_,(hall i (by omega)).2,(hall i (by omega)).1,hr _⟩
  ·obtain⟨p,h1,h2,h3⟩:=ih (by omega) fun i o hi hl=>hlen i o (by omega) hl;exact⟨p,h1,h2,ht _ _ _ h3 (hlen m _ (by omega) (hall m (by omega)).1).2⟩
theorem W9 {n:Nat}{M:List (List Bool)}{x:Int}{t:Nat}{o:List Int}(hl:o.length=n)(hsame:∀k<n,at1 (spS n M x t o) k=x->at1 o k=x){a b:Nat}(ha:a<n)(hb:b<n)(h1:at1 o a=x)(h2:atB M a b=true):at1 o b=x:=by
 refine hsame b hb ?_;unfold spS;obtain⟨p,hp1,hp2,hp3⟩:=aaN (f:=spA n M x) (o:=o) ha (Spr n M x) (fun o=> .refl o) (fun _ _ _=> .trans) n hl (fun i o hi hl=>⟨(ac9 hi hl).len.trans hl,ac9 hi hl⟩);refine hp3.old b hb ?_;unfold spA;obtain⟨q,hq1,hq2,hq3⟩:=aaN (f:=spB M x a) (o:=p) hb (Spr n M x) (fun o=> .refl o) (fun _ _ _=> .trans) n hp2 (fun i o hi hl=>⟨(VD hl ha hi).1.len.trans hl,(VD hl ha hi).1⟩);exact hq3.old b hb ((VD hq2 ha hb).2 (hq1.old a ha (hp1.old a ha h1)) h2)
def cnt (x:Int)(o:List Int):Nat:=(List.range o.length).countP fun k=>decide (at1 o k=x)
theorem aAM (x:Int)(o:List Int):cnt x o<=o.length:=by
 have:=List.countP_le_length (p:=fun k=>decide (at1 o k=x)) (l:=List.range o.length);simpa[cnt]using this
theorem RN {α:Type}{p q:α->Bool}:∀{l:List α},(∀x∈l,p x=true->q x=true)->(∃x∈l,q x=true/\p x=false)->l.countP p<l.countP q
 |[],_,h=>by obtain⟨_,h,_⟩:=h;cases h
 |y::l,hm,h=>by
  have hle:l.countP p<=l.countP q:=List.countP_mono_left fun x hx=>hm x (List.mem_cons_of_mem _ hx);obtain⟨x,hx,h1,h2⟩:=h;rw[List.countP_cons,List.countP_cons];rcases List.mem_cons.1 hx with rfl|hx
  ·simp[h1,h2];omega
  ·have:=RN (fun x hx=>hm x (List.mem_cons_of_mem _ hx)) ⟨x,hx,h1,h2⟩;have:=hm y (by simp);by_cases hp:p y=true
   ·simp[hp,this hp];omega
   ·simp[hp];omega
theorem cnt_lt {n:Nat}{M:List (List Bool)}{x:Int}{o o':List Int}(hl:o.length=n)(h:Spr n M x o o')(hne:¬∀k<n,at1 o' k=x->at1 o k=x):cnt x o<cnt x o':=by
 unfold cnt;rw[h.len];refine RN (fun k hk hp=> ?_) ?_
 ·have:=h.old k (by rw[←hl];exact List.mem_range.1 hk) (by simpa using hp);simpa using this
 ·rw[Classical.not_forall]at hne;obtain⟨k,hk⟩:=hne;rw[Classical.not_forall]at hk;obtain⟨hkn,hk⟩:=hk;rw[Classical.not_imp]at hk;exact⟨k,List.mem_range.2 (by omega),by simpa using hk.1,by simpa using hk.2⟩
theorem Y9 {n:Nat}{M:List (List Bool)}{x:Int}{o:List Int}(hl:o.length=n)(hx:∃s<n,at1 o s=x){a b:Nat}(ha:a<n)(hb:b<n)(h1:at1 (spread n M x o) a=x)(h2:atB M a b=true):at1 (spread n M x o) b=x:=by
 have hr:∀i,Spr n M x o (loopN i o (spS n M x)):=fun i=>IY (fun _ _ _ hl=>IR hl) hl
 have key:∀i,(∃j<i,∀k<n,at1 (loopN (j+1) o (spS n M x)) k=x->at1 (loopN j o (spS n M x)) k=x)\/i+1<=cnt x (loopN i o (spS n M x)):=by
  intro i
  induction i with
  |zero=>
   refine .inr ?_;obtain⟨s,hs,e⟩:=hx;show 1<=cnt x o;unfold cnt;exact List.one_le_countP_iff.2 ⟨s,List.mem_range.2 (by omega),by simpa using e⟩
  |succ i ih=>
   rcases ih with⟨j,hj,h⟩|ih
   ·exact .inl ⟨j,by omega,h⟩
   ·by_cases hne:∀k<n,at1 (loopN (i+1) o (spS n M x)) k=x->at1 (loopN i o (spS n M x)) k=x
    ·exact .inl ⟨i,by omega,hne⟩
    ·refine .inr ?_;have hli:=(hr i).len.trans hl;have:=cnt_lt hli (by rw[aA];exact IR (t:=i) hli) hne;omega
 rcases key n with⟨j,hj,h⟩|h
 ·-- from there on the label is closed
  have hclo:∀i,j<=i->i<=n->∀k<n,at1 (loopN i o (spS n M x)) k=x->at1 (loopN j o (spS n M x)) k=x:=by
   intro i hji hin
   induction i with
   |zero=>obtain rfl:j=0:=by omega
          exact fun k _ e=>e
   |succ i ih=>
    by_cases hji2:j=i+1
    ·subst hji2;exact fun k _ e=>e
    ·intro k hk e;have hli:=(hr i).len.trans hl;have hlj:=(hr j).len.trans hl;refine ih (by omega) (by omega) k hk ?_;rw[aA]at e;rcases(IR (M:=M) (x:=x) (t:=i) hli).new k hk with e2|⟨e6,s,hs,e3,hre⟩
     ·rw[←e2];exact e
     ·have e4:=ih (by omega) (by omega) s hs e3;have hjc:∀a b,a<n->b<n->at1 (loopN j o (spS n M x)) a=x->atB M a b=true->at1 (loopN j o (spS n M x)) b=x:=fun a b ha hb h1 h2=>W9 (t:=j) hlj (by rw[aA]at h;exact h) ha hb h1 h2
      have e5:at1 (loopN j o (spS n M x)) k=x:=by
       clear hk e e6
       induction hre with
       |refl=>exact e4
       |step _ ha hb hm ih=>exact hjc _ _ ha hb ih hm
      have hji3:Spr n M x (loopN j o (spS n M x)) (loopN i o (spS n M x)):=by
       obtain⟨d,rfl⟩:∃d,i=j+d:=⟨i-j,by omega⟩;clear ih e e6 e3 e4 e5 hjc hre hli hin hji hji2
       induction d with
       |zero=>exact .refl _
       |succ d ih=>exact ih.trans (by rw[show j+(d+1)=(j+d)+1 by omega,aA];exact IR ((hr _).len.trans hl))
      exact hji3.old k hk e5
  have hlj:=(hr j).len.trans hl;have e1:=hclo n (by omega) (by omega) a ha h1;have e2:=W9 (t:=j) hlj (by rw[aA]at h;exact h) ha hb e1 h2
  have hjn:Spr n M x (loopN j o (spS n M x)) (loopN n o (spS n M x)):=by
   obtain⟨d,hd⟩:∃d,n=j+d:=⟨n-j,by omega⟩
   have:∀d,Spr n M x (loopN j o (spS n M x)) (loopN (j+d) o (spS n M x)):=by
    intro d
    induction d with
    |zero=>exact .refl _
    |succ d ih=>exact ih.trans (by rw[show j+(d+1)=(j+d)+1 by omega,aA];exact IR ((hr _).len.trans hl))
   have:=this d
   rwa [←hd]at this
  exact hjn.old b hb e2
 ·have:=aAM x (loopN n o (spS n M x));rw[(hr n).len,hl]at this;omega
theorem aj8 {n:Nat}{M:List (List Bool)}{x:Int}{o:List Int}(hl:o.length=n):Spr n M x o (spread n M x o):=IY (fun _ _ _ hl=>IR hl) hl
structure p8 (n:Nat) (M:List (List Bool)) (i:Nat) (s:List Int×Int):Prop where
 len:s.1.length=n
 nx:0<=s.2
 lt:∀k<n, -1<=at1 s.1 k/\at1 s.1 k<s.2
 done:∀k<i,0<=at1 s.1 k
 seed:∀v,0<=v->v<s.2->∃j<i,at1 s.1 j=v
 rg:∀k<n,∀v,0<=v->v<at1 s.1 k->∃j<k,at1 s.1 j=v
 clo:∀a b,a<n->b<n->0<=at1 s.1 a->(at1 s.1 b=at1 s.1 a↔Reach n M a b)
theorem p8.step {n i:Nat}{M:List (List Bool)}(hs:aeM n M)(hi:i<n){s:List Int×Int}(h:p8 n M i s){o:List Int}(hl:o.length=n)(hx:∀k<n,(at1 o k=s.2↔Reach n M i k))(hold:∀k<n,¬Reach n M i k->at1 o k=at1 s.1 k)(h0:at1 s.1 i<0):p8 n M (i+1) (o,s.2+1):=by
 have hnone:∀k<n,Reach n M i k->at1 s.1 k= -1:=fun k hk hr=>by
  have h1:=h.lt k hk;by_cases h2:0<=at1 s.1 k
  ·have:=(h.clo k i hk hi h2).2 (hr.symm hs);omega
  ·omega
 have hge:∀k<n,Reach n M i k->i<=k:=fun k hk hr=>by
  by_cases hik:i<=k
  ·exact hik
  ·have:=h.done k (by omega);have:=hnone k hk hr;omega
 have hkeep:∀j<i,at1 o j=at1 s.1 j:=fun j hj=>hold j (by omega) fun hr=>by have:=hge j (by omega) hr;omega
 refine⟨hl,by simp only;have:=h.nx;omega,fun k hk=> ?_,fun k hk=> ?_,fun v h1 h2=> ?_,fun k hk v h1 h2=> ?_,fun a b ha hb h1=> ?_⟩
 ·simp only;by_cases hr:Reach n M i k
  ·rw[(hx k hk).2 hr];have:=h.nx;omega
  ·rw[hold k hk hr];have:=h.lt k hk;omega
 ·simp only;by_cases hr:Reach n M i k
  ·rw[(hx k (by omega)).2 hr];exact h.nx
  ·rw[hold k (by omega) hr];have:k≠i:=fun e=>hr (e▸ .refl _);exact h.done k (by omega)
 ·simp only at h2|-
  by_cases hv:v=s.2
  ·exact⟨i,by omega,by rw[hv];exact(hx i hi).2 (.refl _)⟩
  ·obtain⟨j,hj,e⟩:=h.seed v h1 (by omega);exact⟨j,by omega,by rw[hkeep j hj,e]⟩
 ·simp only at h2|-
  by_cases hr:Reach n M i k
  ·rw[(hx k hk).2 hr]at h2;obtain⟨j,hj,e⟩:=h.seed v h1 h2;have:=hge k hk hr;exact⟨j,by omega,by rw[hkeep j hj,e]⟩
  ·rw[hold k hk hr]at h2;obtain⟨j,hj,e⟩:=h.rg k hk v h1 h2;refine⟨j,hj,?_⟩;rw[hold j (by omega),e];intro hrj;have:=hnone j (by omega) hrj;omega
 ·simp only at h1|-
  by_cases hra:Reach n M i a
  ·rw[(hx a ha).2 hra];rw[hx b hb];exact⟨fun h=>(hra.symm hs).trans h,fun h=>hra.trans h⟩
  ·rw[hold a ha hra]at h1|-
   by_cases hrb:Reach n M i b
   ·rw[(hx b hb).2 hrb];have:=h.lt a ha;constructor
    ·intro e;omega
    ·intro e;exact absurd (hrb.trans (e.symm hs)) hra
   ·rw[hold b hb hrb];exact h.clo a b ha hb h1
theorem aeV {n i:Nat}{M:List (List Bool)}(hs:aeM n M)(hi:i<n){s:List Int×Int}(h:p8 n M i s):p8 n M (i+1) (yJ n M i s):=by
 unfold yJ;split
 ·rename_i h0;exact⟨h.len,h.nx,h.lt,fun k hk=>by by_cases e:k=i;(subst e;exact h0);exact h.done k (by omega),fun v h1 h2=>by obtain⟨j,hj,e⟩:=h.seed v h1 h2;exact⟨j,by omega,e⟩,h.rg,h.clo⟩
 ·rename_i h0;have hil:i<s.1.length:=by rw[h.len];exact hi
  have hset:=fun k=>pQ (r:=s.1) (j:=i) (v:=s.2) k hil;have hl0:(s.1.set i s.2).length=n:=by simp[h.len]
  have hsp:=aj8 (M:=M) (x:=s.2) hl0;have hcl:=fun a b ha hb=>Y9 (M:=M) (x:=s.2) hl0 ⟨i,hi,by rw[hset,if_pos rfl]⟩ (a:=a) (b:=b) ha hb
  have hseed:∀k<n,(at1 (s.1.set i s.2) k=s.2↔k=i):=fun k hk=>by
   rw[hset];split
   ·simp_all
   ·rename_i hne;have:=h.lt k hk;constructor
    ·intro e;omega
    ·intro e;exact absurd e.symm hne
  have hx:∀k<n,(at1 (spread n M s.2 (s.1.set i s.2)) k=s.2↔Reach n M i k):=fun k hk=>by
   constructor
   ·intro e;rcases hsp.new k hk with e2|⟨_,t,ht,e3,hr⟩
    ·obtain rfl:=(hseed k hk).1 (by omega);exact .refl _
    ·obtain rfl:=(hseed t ht).1 e3;exact hr
   ·intro hr;clear hk
    induction hr with
    |refl=>exact hsp.old i hi ((hseed i hi).2 rfl)
    |step _ ha hb hm ih=>exact hcl _ _ ha hb ih hm
  have hold:∀k<n,¬Reach n M i k->at1 (spread n M s.2 (s.1.set i s.2)) k=at1 s.1 k:=fun k hk hn=>by
   rcases hsp.new k hk with e2|⟨e,_⟩
   ·rw[e2,hset,if_neg];rintro rfl;exact hn (.refl _)
   ·exact absurd ((hx k hk).1 e) hn
  exact h.step hs hi (by rw[hsp.len,hl0]) hx hold (by omega)
theorem p8.start {n:Nat}{M:List (List Bool)}:p8 n M 0 (List.replicate n (-1),0):=by
 have hrep:∀k<n,at1 (List.replicate n (-1)) k= -1:=fun k hk=>by simp[at1,List.getD_eq_getElem?_getD,hk]
 exact⟨by simp,by simp,fun k hk=>by simp only;rw[hrep k hk];omega,fun k hk=>by omega,fun v h1 h2=>by simp only at h2;omega,fun k hk v h1 h2=>by simp only at h2;rw[hrep k hk]at h2;omega,fun a b ha hb h1=>by simp only at h1;rw[hrep a ha]at h1;omega⟩
theorem p8.is {n:Nat}{M:List (List Bool)}{s:List Int×Int}(h:p8 n M n s):uZ n M s.1:=by
 refine⟨h.len,fun k hk=>⟨h.done k (by rw[h.len]at hk;exact hk),h.rg k (by rw[h.len]at hk;exact hk)⟩,fun i k hi hk=> ?_⟩;rw[eq_comm];exact h.clo i k hi hk (h.done i hi)
theorem UY {n:Nat}{M:List (List Bool)}(hs:aeM n M):uZ n M (aeS n M).1:=
 p8.is (s:=aeS n M) (loopN_inv (p8 n M) .start fun i s hi h=>aeV hs hi h)
def dfs (n:Nat)(m:List (List Int))(c:Int):Nat->Nat->List Int->List Int
 |0,_,o=>o
 |f+1,i,o=>loopN n (o.set i c) fun k o=>if 0<at2 m i k/\at1 o k<0 then dfs n m c f k o else o
def CX (n:Nat)(m:List (List Int))(i:Nat)(s:List Int×Int):List Int×Int:=if at1 s.1 i<0 then(dfs n m s.2 n i s.1,s.2+1)else s
def VB (n:Nat)(m:List (List Int)):List Int×Int:=loopN n (List.replicate n (-1),0) (CX n m)
def negs (n:Nat)(o:List Int):Nat:=(List.range n).countP fun k=>decide (at1 o k<0)
theorem aaA {n:Nat}{o o':List Int}(h:∀k<n,0<=at1 o k->0<=at1 o' k):negs n o'<=negs n o:=
 List.countP_mono_left fun k hk hp=>by
  have:=h k (List.mem_range.1 hk);simp only[decide_eq_true_eq]at hp|-
  omega
theorem NH {n i:Nat}{o:List Int}{c:Int}(hl:o.length=n)(hi:i<n)(h:at1 o i<0)(hc:0<=c):negs n (o.set i c)<negs n o:=by
 have hs:=fun k=>pQ (r:=o) (j:=i) (v:=c) k (by omega);refine RN (fun k hk hp=> ?_) ⟨i,List.mem_range.2 hi,by simpa using h,?_⟩
 ·simp only[decide_eq_true_eq]at hp|-
  rw[hs]at hp;split at hp<;>omega
 ·rw[hs,if_pos rfl];simp;omega
theorem akI (n:Nat)(o:List Int):negs n o<=n:=by
 have:=List.countP_le_length (p:=fun k=>decide (at1 o k<0)) (l:=List.range n);simpa[negs]using this
structure Dfs (n:Nat) (M:List (List Bool)) (c:Int) (i:Nat) (o o':List Int):Prop where
 len:o'.length=n
 keep:∀k<n,0<=at1 o k->at1 o' k=at1 o k
 new:∀k<n,at1 o' k=at1 o k\/(at1 o k<0/\at1 o' k=c/\Reach n M i k)
 self:at1 o' i=c
 clo:∀a b,a<n->b<n->at1 o a<0->at1 o' a=c->atB M a b=true->0<=at1 o' b
def aCA (n:Nat)(M:List (List Bool))(c:Int)(i:Nat)(o:List Int)(j:Nat)(p:List Int):Prop:=
 p.length=n/\(∀k<n,0<=at1 o k->at1 p k=at1 o k)/\(∀k<n,at1 p k=at1 o k\/(at1 o k<0/\at1 p k=c/\Reach n M i k))/\at1 p i=c/\(∀k<n,0<=at1 (o.set i c) k->0<=at1 p k)/\
    (∀a b,a<n->b<n->at1 o a<0->at1 p a=c->atB M a b=true->(a=i->b<j)->0<=at1 p b)
theorem ap5 {n:Nat}{m:List (List Int)}{M:List (List Bool)}{c:Int}(hM:∀a b,a<n->b<n->(0<at2 m a b↔atB M a b=true))(hc:0<=c):∀(f i:Nat) (o:List Int),o.length=n->i<n->at1 o i<0->negs n o<=f->Dfs n M c i o (dfs n m c f i o)
 |0,i,o,hl,hi,h0,hf=>by
  have:=NH hl hi h0 hc;omega
 |f+1,i,o,hl,hi,h0,hf=>by
  have hs:=fun k=>pQ (r:=o) (j:=i) (v:=c) k (by omega);have hng:=NH hl hi h0 hc
  have key:∀j≤n,aCA n M c i o j (loopN j (o.set i c) fun k o=>if 0<at2 m i k/\at1 o k<0 then dfs n m c f k o else o):=by
   intro j hj;refine loopN_inv (n:=j) (f:=fun k o=>if 0<at2 m i k/\at1 o k<0 then dfs n m c f k o else o) (aCA n M c i o) ?_ fun t p ht hp=> ?_
   ·refine⟨by simp[hl],fun k hk h=> ?_,fun k hk=> ?_,by rw[hs,if_pos rfl],fun k hk h=>h,fun a b ha hb h1 h2 h3 h4=> ?_⟩
    ·rw[hs,if_neg];rintro rfl;omega
    ·rw[hs];split
     ·subst_vars;exact .inr ⟨h0,rfl,.refl _⟩
     ·exact .inl rfl
    ·rw[hs]at h2;split at h2
     ·rename_i e;exact absurd (h4 e.symm) (by omega)
     ·omega
   ·obtain⟨p1,p2,p3,p4,p5,p6⟩:=hp;split
    ·rename_i hcd;have hng2:negs n p<=f:=by have:=aaA (n:=n) p5;omega
     have hd:=ap5 hM hc f t p p1 (by omega) hcd.2 hng2;have hit:Reach n M i t:= .step (.refl _) hi (by omega) ((hM i t hi (by omega)).1 hcd.1);refine⟨hd.len,fun k hk h=> ?_,fun k hk=> ?_,?_,fun k hk h=> ?_,fun a b ha hb h1 h2 h3 h4=> ?_⟩
     ·rw[hd.keep k hk (by rw[p2 k hk h];exact h),p2 k hk h]
     ·rcases hd.new k hk with e|⟨e1,e2,e3⟩
      ·rw[e];exact p3 k hk
      ·refine .inr ⟨?_,e2,hit.trans e3⟩;rcases p3 k hk with e4|⟨e4,_⟩
       ·omega
       ·exact e4
     ·rw[hd.keep i hi (by omega),p4]
     ·rw[hd.keep k hk (p5 k hk h)];exact p5 k hk h
     ·by_cases hpa:at1 p a=c
      ·-- it had its label before
       by_cases hai:a=i
       ·by_cases hbt:b=t
        ·subst hbt;rw[hd.self];exact hc
        ·have hb2:=p6 a b ha hb h1 hpa h3 (fun e=>by have:=h4 e;omega);rw[hd.keep b hb hb2];exact hb2
       ·have hb2:=p6 a b ha hb h1 hpa h3 (fun e=>absurd e hai);rw[hd.keep b hb hb2];exact hb2
      ·have hpa0:at1 p a<0:=by
        rcases p3 a ha with e|⟨_,e,_⟩
        ·omega
        ·exact absurd e hpa
       exact hd.clo a b ha hb hpa0 h2 h3
    ·rename_i hcd;refine⟨p1,p2,p3,p4,p5,fun a b ha hb h1 h2 h3 h4=> ?_⟩;by_cases hai:a=i
     ·by_cases hbt:b=t
      ·subst hbt;by_cases h5:0<=at1 p b
       ·exact h5
       ·exact absurd ⟨(hM i b hi hb).2 (hai▸h3),by omega⟩ hcd
      ·exact p6 a b ha hb h1 h2 h3 (fun e=>by have:=h4 e;omega)
     ·exact p6 a b ha hb h1 h2 h3 (fun e=>absurd e hai)
  obtain⟨p1,p2,p3,p4,p5,p6⟩:=key n (Nat.le_refl n);exact⟨p1,p2,p3,p4,fun a b ha hb h1 h2 h3=>p6 a b ha hb h1 h2 h3 fun _=>hb⟩
theorem ad6 {n i:Nat}{m:List (List Int)}{M:List (List Bool)}(hM:∀a b,a<n->b<n->(0<at2 m a b↔atB M a b=true))(hs:aeM n M)(hi:i<n){s:List Int×Int}(h:p8 n M i s):p8 n M (i+1) (CX n m i s):=by
 unfold CX;split
 ·rename_i h0;have hd:=ap5 hM h.nx n i s.1 h.len hi h0 (akI _ _)
  have hx:∀k<n,(at1 (dfs n m s.2 n i s.1) k=s.2↔Reach n M i k):=fun k hk=>by
   constructor
   ·intro e;rcases hd.new k hk with e2|⟨_,_,hr⟩
    ·have:=h.lt k hk;omega
    ·exact hr
   ·intro hr;clear hk
    induction hr with
    |refl=>exact hd.self
    | @step a b _ ha hb hm ih=>
     have hla:=h.lt a ha
     have ha0:at1 s.1 a<0:=by
      rcases hd.new a ha with e2|⟨e,_⟩
      ·omega
      ·exact e
     have hb1:=hd.clo a b ha hb ha0 ih hm;rcases hd.new b hb with e2|⟨_,e,_⟩
     ·exfalso;have:=(h.clo b a hb ha (by omega)).2 (.step (.refl _) hb ha (hs _ _ ha hb hm));omega
     ·exact e
  refine h.step hs hi hd.len hx (fun k hk hr=> ?_) h0;rcases hd.new k hk with e|⟨_,_,e⟩
  ·exact e
  ·exact absurd e hr
 ·rename_i h0;exact⟨h.len,h.nx,h.lt,fun k hk=>by by_cases e:k=i;(subst e;omega);exact h.done k (by omega),fun v h1 h2=>by obtain⟨j,hj,e⟩:=h.seed v h1 h2;exact⟨j,by omega,e⟩,h.rg,h.clo⟩
theorem aiF {n:Nat}{m:List (List Int)}{M:List (List Bool)}(hM:∀a b,a<n->b<n->(0<at2 m a b↔atB M a b=true))(hs:aeM n M):uZ n M (VB n m).1:=
 p8.is (s:=VB n m) (loopN_inv (p8 n M) .start fun i s hi h=>ad6 hM hs hi h)
theorem au2 {n:Nat}{m:List (List Int)}{M:List (List Bool)}(hM:∀a b,a<n->b<n->(0<at2 m a b↔atB M a b=true))(hs:aeM n M):(VB n m).1=(aeS n M).1:=(aiF hM hs).unique (UY hs)
def ed (x y:Str)(tr:Bool):Nat->Nat->Int
 |0,j=>j
 |i+1,0=>(i+1:Nat)
 |i+1,j+1=>
  if mX x y tr (i+1) (j+1)=true then min (if chr x i=chr y j then ed x y tr i j else 1+min (min (ed x y tr i (j+1)) (ed x y tr (i+1) j)) (ed x y tr i j)) (ed x y tr (i-1) (j-1)+1)
  else if chr x i=chr y j then ed x y tr i j else 1+min (min (ed x y tr i (j+1)) (ed x y tr (i+1) j)) (ed x y tr i j)
termination_by i j=>i+j
decreasing_by all_goals omega
section
variable {x y:Str}{tr:Bool}
theorem ed_zero (j:Nat):ed x y tr 0 j=j:=by rw[ed]
theorem ed_zero' (i:Nat):ed x y tr i 0=i:=by cases i<;>simp[ed]
def edV (x y:Str)(tr:Bool)(i j:Nat):Int:=if chr x i=chr y j then ed x y tr i j else 1+min (min (ed x y tr i (j+1)) (ed x y tr (i+1) j)) (ed x y tr i j)
theorem tO (i j:Nat):ed x y tr (i+1) (j+1)=if mX x y tr (i+1) (j+1)=true then min (edV x y tr i j) (ed x y tr (i-1) (j-1)+1)else edV x y tr i j:=by rw[ed];rfl
theorem aBR:∀(s i j:Nat),i+j=s->ed x y tr i (j+1)<=ed x y tr i j+1/\ed x y tr i j<=ed x y tr i (j+1)+1/\ed x y tr (i+1) j<=ed x y tr i j+1/\ed x y tr i j<=ed x y tr (i+1) j+1/\ed x y tr (i+1) (j+1)<=ed x y tr i j+1:=by
 intro s
 induction s using Nat.strongRecOn with
 |_ s ih=>
  intro i j hs
  have hsw:∀i j,mX x y tr (i+1) (j+1)=true->∃i' j',i=i'+1/\j=j'+1:=fun i j h=>by
   simp only[mX,Bool.and_eq_true,decide_eq_true_eq]at h;exact⟨i-1,j-1,by omega,by omega⟩
  have hE:ed x y tr (i+1) (j+1)<=ed x y tr i j+1:=by
   rw[tO];unfold edV;split<;>split<;>omega
  refine⟨?_,?_,?_,?_,hE⟩
  ·cases i with
   |zero=>rw[ed_zero,ed_zero];omega
   |succ i=>
    have h1:=ih (i+j) (by omega) i j rfl;rw[tO];unfold edV;split<;>split<;>omega
  ·cases i with
   |zero=>rw[ed_zero,ed_zero];omega
   |succ i=>
    have h1:=ih (i+j) (by omega) i j rfl;rw[tO];unfold edV;split
    ·rename_i h;obtain⟨i',j',rfl,rfl⟩:=hsw i j h;have h2:=ih (i'+j') (by omega) i' j' rfl;simp only[Nat.add_sub_cancel];split<;>omega
    ·split<;>omega
  ·cases j with
   |zero=>rw[ed_zero',ed_zero'];omega
   |succ j=>
    have h1:=ih (i+j) (by omega) i j rfl;rw[tO];unfold edV;split<;>split<;>omega
  ·cases j with
   |zero=>rw[ed_zero',ed_zero'];omega
   |succ j=>
    have h1:=ih (i+j) (by omega) i j rfl;rw[tO];unfold edV;split
    ·rename_i h;obtain⟨i',j',rfl,rfl⟩:=hsw i j h;have h2:=ih (i'+j') (by omega) i' j' rfl;simp only[Nat.add_sub_cancel];split<;>omega
    ·split<;>omega
theorem aAB (i j:Nat):min (min (ed x y tr i (j+1)+1) (ed x y tr (i+1) j+1)) (ed x y tr i j+if chr x i=chr y j then 0 else 1)=edV x y tr i j:=by
 have h:=aBR (x:=x) (y:=y) (tr:=tr) (i+j) i j rfl;unfold edV;split<;>omega
def edR (x y:Str)(tr:Bool)(i k:Nat):List Int:=(List.range k).map (ed x y tr i)
theorem akV {i k j:Nat}(h:j<k):at1 (edR x y tr i k) j=ed x y tr i j:=by simp[at1,edR,List.getD_eq_getElem?_getD,h]
theorem VF {n k i j:Nat}(hi:i<n)(h:j<k):at2 ((List.range n).map fun i=>edR x y tr i k) i j=ed x y tr i j:=by
 have:=akV (x:=x) (y:=y) (tr:=tr) (i:=i) h;simpa[at2,at1,List.getD_eq_getElem?_getD,hi]using this
theorem as3 {i:Nat}:XD x y tr i ((List.range i).map fun i=>edR x y tr i (y.length+1))=edR x y tr i (y.length+1):=by
 have h:(fun(j:Nat) (r:List Int)=>r.length=y.length+1/\∀k<j,at1 r k=ed x y tr i k) (y.length+1) (XD x y tr i ((List.range i).map fun i=>edR x y tr i (y.length+1))):=by
  refine loopN_inv (fun(j:Nat) (r:List Int)=>r.length=y.length+1/\∀k<j,at1 r k=ed x y tr i k) ⟨by simp,by omega⟩ fun j r hj ⟨h1,h2⟩=> ?_
  have h3:edOne x y ((List.range i).map fun i=>edR x y tr i (y.length+1)) i r j=(if i=0 then(j:Int)else if j=0 then(i:Int)else edV x y tr (i-1) (j-1)):=by
   unfold edOne;split
   ·rfl
   ·split
    ·rfl
    ·obtain⟨i,rfl⟩:∃k,i=k+1:=⟨i-1,by omega⟩;obtain⟨j,rfl⟩:∃k,j=k+1:=⟨j-1,by omega⟩;simp only[Nat.add_sub_cancel];rw[VF (by omega) (by omega),VF (by omega) (by omega),h2 j (by omega)];rfl
  unfold xO aaS;have hset:=pQ (r:=r) (j:=j) (v:=edOne x y ((List.range i).map fun i=>edR x y tr i (y.length+1)) i r j);split
  ·rename_i hw;have hw2:=hw;simp only[mX,Bool.and_eq_true,decide_eq_true_eq]at hw2;refine⟨by simp[h1],fun k hk=> ?_⟩;rw[pQ _ (by simp;omega),hset _ (by omega),hset _ (by omega),if_pos rfl];split
   ·rename_i e;subst e;rw[h3,if_neg (by omega),if_neg (by omega),VF (by omega) (by omega)];obtain⟨i,rfl⟩:∃k,i=k+2:=⟨i-2,by omega⟩;obtain⟨j,rfl⟩:∃k,j=k+2:=⟨j-2,by omega⟩;rw[tO,if_pos hw];rfl
   ·exact h2 k (by omega)
  ·rename_i hw;refine⟨by simp[h1],fun k hk=> ?_⟩;rw[hset _ (by omega)];split
   ·rename_i e;subst e;rw[h3];split
    ·rename_i e;rw[e,ed_zero]
    ·split
     ·rename_i e;rw[e,ed_zero']
     ·obtain⟨i,rfl⟩:∃k,i=k+1:=⟨i-1,by omega⟩;obtain⟨j,rfl⟩:∃k,j=k+1:=⟨j-1,by omega⟩;rw[tO,if_neg hw];rfl
   ·exact h2 k (by omega)
 have h1:(XD x y tr i ((List.range i).map fun i=>edR x y tr i (y.length+1))).length=y.length+1:=h.1;refine acX (by rw[h1];simp[edR]) fun k hk=> ?_;rw[h1]at hk;rw[h.2 k hk,akV hk]
theorem aiJ:IM x y tr=(List.range (x.length+1)).map fun i=>edR x y tr i (y.length+1):=by
 refine loopN_inv (fun i (T:List (List Int))=>T=(List.range i).map fun i=>edR x y tr i (y.length+1)) rfl fun i T _ h=> ?_;rw[h,as3,Q4]
theorem QE:jR x y=if xC x y=true then ed x y false x.length y.length else -1:=by
 unfold jR;rw[aiJ,VF (by omega) (by omega)]
theorem ajW (i j:Nat):0<=ed x y tr i j/\ed x y tr i j<=i+j:=by
 suffices∀s i j,i+j=s->0<=ed x y tr i j/\ed x y tr i j<=i+j from this _ i j rfl
 intro s
 induction s using Nat.strongRecOn with
 |_ s ih=>
  intro i j hs;cases i with
  |zero=>rw[ed_zero];omega
  |succ i=>
   cases j with
   |zero=>rw[ed_zero'];omega
   |succ j=>
    have h1:=ih (i+j) (by omega) i j rfl;have h2:=ih (i+(j+1)) (by omega) i (j+1) rfl;have h3:=ih (i+1+j) (by omega) (i+1) j rfl;have h4:=ih (i-1+(j-1)) (by omega) (i-1) (j-1) rfl;rw[tO];unfold edV;split<;>split<;>omega
end
theorem dW:∀(a:Str),ltL a a=false
 |[]=>rfl
 |a::x=>by have h:=dW x;unfold ltL at*;rw[Op.bytesLess,h];simp
theorem qH:∀{a b c:Str},ltL a b=true->ltL b c=true->ltL a c=true
 |_,[],_,h,_=>by unfold ltL at h;rw[Op.bytesLess]at h;cases h
 |_,_::_,[],_,h=>by unfold ltL at h;rw[Op.bytesLess]at h;cases h
 |[],_::_,_::_,_,_=>by unfold ltL;rw[Op.bytesLess]
 |a::x,b::y,c::z,h,h'=>by
  unfold ltL at*
  rw[Op.bytesLess]at*
  simp only[Bool.or_eq_true,decide_eq_true_eq,Bool.and_eq_true,beq_iff_eq]at*
  rcases h with h|⟨rfl,h⟩
  ·rcases h' with h'|⟨rfl,h'⟩
   ·exact .inl (UInt8.lt_trans h h')
   ·exact .inl h
  ·rcases h' with h'|⟨rfl,h'⟩
   ·exact .inl h'
   ·exact .inr ⟨rfl,qH h h'⟩
theorem wE:∀(a b:Str),ltL a b=true\/a=b\/ltL b a=true
 |[],[]=> .inr (.inl rfl)
 |[],_::_=> .inl (by unfold ltL;rw[Op.bytesLess])
 |_::_,[]=> .inr (.inr (by unfold ltL;rw[Op.bytesLess]))
 |a::x,b::y=>by
  unfold ltL;rw[Op.bytesLess,Op.bytesLess];simp only[Bool.or_eq_true,decide_eq_true_eq,Bool.and_eq_true,beq_iff_eq];rcases Nat.lt_trichotomy a.toNat b.toNat with h|h|h
  ·exact .inl (.inl (UInt8.lt_iff_toNat_lt.2 h))
  ·obtain rfl:=UInt8.toNat_inj.1 h;rcases wE x y with h|rfl|h
   ·exact .inl (.inr ⟨rfl,h⟩)
   ·exact .inr (.inl rfl)
   ·exact .inr (.inr (.inr ⟨rfl,h⟩))
  ·exact .inr (.inr (.inl (UInt8.lt_iff_toNat_lt.2 h)))
theorem sW {a b:Str}(h:ltL a b=true):ltL b a=false:=by
 cases h2:ltL b a with
 |false=>rfl
 |true=>have:=qH h h2;rw[dW]at this;cases this
abbrev Asc (l:List Str):Prop:=l.Pairwise fun a b=>ltL a b=true
theorem O9:∀{l:List Str},adj ltL l=true↔Asc l
 |[]=>by simp
 |[a]=>by simp[adj]
 |a::b::l=>by
  have ih:=O9 (l:=b::l);simp only[adj,Bool.and_eq_true,ih,List.pairwise_cons,List.mem_cons];constructor
  ·rintro⟨h1,h2,h3⟩;refine⟨fun x hx=> ?_,h2,h3⟩;rcases hx with rfl|hx
   ·exact h1
   ·exact qH h1 (h2 x hx)
  ·rintro⟨h1,h2,h3⟩;exact⟨h1 b (.inl rfl),h2,h3⟩
theorem Asc.unique:∀{a b:List Str},Asc a->Asc b->(∀x,x∈a↔x∈b)->a=b
 |[],[],_,_,_=>rfl
 |[],y::_,_,_,h=>by have:=(h y).2 (by simp);cases this
 |x::_,[],_,_,h=>by have:=(h x).1 (by simp);cases this
 |x::a,y::b,ha,hb,h=>by
  obtain⟨ha1,ha2⟩:=List.pairwise_cons.1 ha;obtain⟨hb1,hb2⟩:=List.pairwise_cons.1 hb
  have hxy:x=y:=by
   rcases wE x y with h1|h1|h1
   ·rcases List.mem_cons.1 ((h x).1 (by simp))with e|e
    ·exact e
    ·have:=sW (hb1 x e);rw[h1]at this;cases this
   ·exact h1
   ·rcases List.mem_cons.1 ((h y).2 (by simp))with e|e
    ·exact e.symm
    ·have:=sW (ha1 y e);rw[h1]at this;cases this
  subst hxy;congr 1;refine Asc.unique ha2 hb2 fun z=> ?_;have hz:=h z;constructor
  ·intro hm;rcases List.mem_cons.1 (hz.1 (List.mem_cons_of_mem _ hm))with e|e
   ·subst e;have:=ha1 z hm;rw[dW]at this;cases this
   ·exact e
  ·intro hm;rcases List.mem_cons.1 (hz.2 (List.mem_cons_of_mem _ hm))with e|e
   ·subst e;have:=hb1 z hm;rw[dW]at this;cases this
   ·exact e
theorem GV (y:Str)(l:List Str)(x:Str):dQ (y::l) x false=if ltL y x=true then y::dQ l x false else if y=x then y::l else x::y::l:=by
 unfold dQ rY;by_cases h:ltL y x=true
 ·simp only[List.takeWhile_cons,h,if_true,List.length_cons,List.getElem?_cons_succ,List.take_succ_cons,List.drop_succ_cons,List.cons_append];split<;>simp_all
 ·simp only[List.takeWhile_cons,h,if_false,Bool.false_eq_true,List.length_nil,List.getElem?_cons_zero,List.take_zero,List.drop_zero,Option.some.injEq];split
  ·simp_all
  ·simp_all
theorem qZ:∀{l:List Str}{x z:Str},z∈dQ l x false↔z∈l\/z=x
 |[],x,z=>by simp[dQ,rY]
 |y::l,x,z=>by
  rw[GV];split
  ·rw[List.mem_cons,qZ (l:=l),List.mem_cons,or_assoc]
  ·split
   ·subst_vars
    constructor
    ·exact .inl
    ·rintro(h|rfl)
     ·exact h
     ·simp
   ·simp only[List.mem_cons];constructor
    ·rintro(h|h|h)<;>simp[h]
    ·rintro((h|h)|h)<;>simp[h]
theorem L6:∀{l:List Str}{x:Str},Asc l->Asc (dQ l x false)
 |[],x,_=>by simp[dQ,rY]
 |y::l,x,h=>by
  obtain⟨h1,h2⟩:=List.pairwise_cons.1 h;rw[GV];split
  ·rename_i hlt;refine List.pairwise_cons.2 ⟨fun z hz=> ?_,L6 h2⟩;rcases qZ.1 hz with hz|rfl
   ·exact h1 z hz
   ·exact hlt
  ·split
   ·exact h
   ·rename_i h3 h4
    have hxy:ltL x y=true:=by
     rcases wE x y with e|e|e
     ·exact e
     ·exact absurd e.symm h4
     ·exact absurd e h3
    refine List.pairwise_cons.2 ⟨fun z hz=> ?_,h⟩;rcases List.mem_cons.1 hz with rfl|hz
    ·exact hxy
    ·exact qH hxy (h1 z hz)
theorem BJ {f:List Str->Str->List Str}{p:Str->Prop}{g:Str->Str}(hp:∀t x,p x->f t x=dQ t (g x) false)(hn:∀t x,¬p x->f t x=t):∀(l t:List Str),Asc t->Asc (l.foldl f t)/\∀z,z∈l.foldl f t↔z∈t\/∃x∈l,p x/\z=g x
 |[],t,h=>⟨h,fun z=>by simp⟩
 |y::l,t,h=>by
  by_cases hy:p y
  ·obtain⟨h1,h2⟩:=BJ hp hn l _ (L6 (x:=g y) h);simp only[List.foldl_cons,hp t y hy];refine⟨h1,fun z=> ?_⟩;rw[h2,qZ];simp only[List.mem_cons,exists_eq_or_imp,hy,true_and,or_assoc]
  ·obtain⟨h1,h2⟩:=BJ hp hn l t h;simp only[List.foldl_cons,hn t y hy];refine⟨h1,fun z=> ?_⟩;rw[h2];simp only[List.mem_cons,exists_eq_or_imp,hy,false_and,false_or]
theorem LZ (s:Str):Asc (tokens s)/\∀z,z∈tokens s↔z∈VK 32 (normal s)/\z≠[]:=by
 obtain⟨h1,h2⟩:=BJ (f:=nQ) (p:=fun x=>x≠[]) (g:=id) (fun t x h=>if_pos h) (fun t x h=>if_neg h) (VK 32 (normal s)) [] .nil;refine⟨h1,fun z=>(h2 z).trans ?_⟩;constructor
 ·rintro(h|⟨x,h3,h4,rfl⟩)
  ·cases h
  ·exact⟨h3,h4⟩
 ·rintro⟨h3,h4⟩;exact .inr ⟨z,h3,h4,rfl⟩
theorem J3 (s:Str):Asc (fQ s)/\∀z,z∈fQ s↔∃t∈tokens s,dH t≠[]/\z=dH t:=by
 obtain⟨h1,h2⟩:=BJ (f:=oF) (p:=fun x=>dH x≠[]) (g:=dH) (fun t x h=>if_pos h) (fun t x h=>if_neg h) (tokens s) [] .nil;exact⟨h1,fun z=>(h2 z).trans (by simp)⟩
def zF (b:List Str)(x:Str):Bool:=b.any fun y=>decide (y=x)
theorem hasL_iff {b:List Str}{x:Str}:zF b x=true↔x∈b:=by simp[zF]
theorem XZ (a b:List Str):Asc (common a b)/\∀z,z∈common a b↔z∈a/\z∈b:=by
 obtain⟨h1,h2⟩:=BJ (f:=yF b) (p:=fun x=>zF b x=true) (g:=id) (fun t x h=>if_pos h) (fun t x h=>if_neg h) a [] .nil;refine⟨h1,fun z=>(h2 z).trans ?_⟩;constructor
 ·rintro(h|⟨x,h3,h4,rfl⟩)
  ·cases h
  ·exact⟨h3,hasL_iff.1 h4⟩
 ·rintro⟨h3,h4⟩;exact .inr ⟨z,h3,hasL_iff.2 h4,rfl⟩
def mcount:List Str->List Str->Nat
 |[],_=>0
 |_::_,[]=>0
 |a::x,b::y=>if ltL a b=true then mcount x (b::y)else if ltL b a=true then mcount (a::x) y else mcount x y+1
termination_by x y=>x.length+y.length
theorem ae0 {a:List Str}{p:Str->Bool}(h:∀x∈a,p x=false):a.filter p=[]:=List.filter_eq_nil_iff.2 fun x hx=>by simp[h x hx]
theorem JB:∀{a b:List Str},Asc a->Asc b->mcount a b=(a.filter (zF b)).length
 |[],b,_,_=>by rw[mcount];rfl
 |a::x,[],_,_=>by rw[mcount,ae0 (p:=zF []) (fun _ _=>rfl)];rfl
 |a::x,b::y,ha,hb=>by
  obtain⟨ha1,ha2⟩:=List.pairwise_cons.1 ha;obtain⟨hb1,hb2⟩:=List.pairwise_cons.1 hb;rw[mcount];split
  ·rename_i h;rw[JB ha2 hb,List.filter_cons_of_neg];intro hm;rcases List.mem_cons.1 (hasL_iff.1 hm)with rfl|hm
   ·rw[dW]at h;cases h
   ·have:=qH h (hb1 a hm);rw[dW]at this;cases this
  ·rename_i h;split
   ·rename_i h2;rw[JB ha hb2];congr 1;refine List.filter_congr fun z hz=> ?_;rw[Bool.eq_iff_iff,hasL_iff,hasL_iff,List.mem_cons];constructor
    ·exact .inr
    ·rintro(rfl|h3)
     ·exfalso;rcases List.mem_cons.1 hz with rfl|hz
      ·rw[dW]at h2;cases h2
      ·have:=qH h2 (ha1 z hz);rw[dW]at this;cases this
     ·exact h3
   ·rename_i h2
    have hab:a=b:=by
     rcases wE a b with e|e|e
     ·exact absurd e h
     ·exact e
     ·exact absurd e h2
    subst hab;rw[JB ha2 hb2,List.filter_cons_of_pos (hasL_iff.2 (by simp)),List.length_cons];congr 2;refine List.filter_congr fun z hz=> ?_;rw[Bool.eq_iff_iff,hasL_iff,hasL_iff,List.mem_cons];constructor
    ·exact .inr
    ·rintro(rfl|h3)
     ·exfalso;have:=ha1 z hz;rw[dW]at this;cases this
     ·exact h3
termination_by x y=>x.length+y.length
theorem al2 {a b:List Str}(ha:Asc a):common a b=a.filter (zF b):=
 Asc.unique (XZ a b).1 (List.Pairwise.filter _ ha) fun z=>by rw[(XZ a b).2,List.mem_filter,hasL_iff]
theorem ZG {l:List Str}(hl:Asc l)(x:Str):(dQ l x false).length=l.length+if zF l x then 0 else 1:=by
 induction l with
 |nil=>simp[dQ,rY,zF]
 |cons y l ih=>
  obtain⟨h1,h2⟩:=List.pairwise_cons.1 hl;rw[GV];split
  ·rename_i h;have hyx:y≠x:=fun e=>by subst e;rw[dW]at h;cases h
   have:zF (y::l) x=zF l x:=by simp[zF,hyx]
   rw[this,List.length_cons,ih h2,List.length_cons];omega
  ·split
   ·rename_i h;have:zF (y::l) x=true:=hasL_iff.2 (by simp[h]);rw[this];simp
   ·rename_i h h3
    have:zF (y::l) x=false:=by
     rw[Bool.eq_false_iff];intro hm;rcases List.mem_cons.1 (hasL_iff.1 hm)with e|e
     ·exact h3 e.symm
     ·have:=h1 x e;exact h this
    rw[this];simp
theorem ahM {a b:List Str}(ha:Asc a)(hb:Asc b):(NA a b).length+(a.filter (zF b)).length=a.length+b.length:=by
 have h1:a.foldl nZ []=a:=by
  obtain⟨h1,h2⟩:=BJ (f:=nZ) (p:=fun _=>True) (g:=id) (fun t x h=>rfl) (fun t x h=>absurd trivial h) a [] .nil;exact Asc.unique h1 ha fun z=>(h2 z).trans (by simp)
 have h2:∀(b t:List Str),Asc b->Asc t->(b.foldl nZ t).length+(b.filter (zF t)).length=t.length+b.length:=by
  intro b
  induction b with
  |nil=>intro t _ _;simp
  |cons y b ih=>
   intro t hb ht;obtain⟨hb1,hb2⟩:=List.pairwise_cons.1 hb;have h3:=ih (dQ t y false) hb2 (L6 ht);have h4:=ZG ht y
   have h5:b.filter (zF (dQ t y false))=b.filter (zF t):=List.filter_congr fun z hz=>by
    rw[Bool.eq_iff_iff,hasL_iff,hasL_iff,qZ];constructor
    ·rintro(h|rfl)
     ·exact h
     ·have:=hb1 z hz;rw[dW]at this;cases this
    ·exact .inl
   rw[h5]at h3;simp only[List.foldl_cons,List.length_cons];show(b.foldl nZ (dQ t y false)).length+_=_;by_cases h:zF t y=true
   ·rw[List.filter_cons_of_pos h,List.length_cons];rw[h]at h4;simp at h4;omega
   ·rw[List.filter_cons_of_neg h];simp only[h,Bool.false_eq_true,if_false]at h4;omega
 have h3:=h2 b a hb ha
 have h4:b.filter (zF a)=a.filter (zF b):=Asc.unique (List.Pairwise.filter _ hb) (List.Pairwise.filter _ ha) fun z=>by
  rw[List.mem_filter,List.mem_filter,hasL_iff,hasL_iff,and_comm]
 unfold NA;rw[h1,←h4];exact h3
theorem KO (a b:List Str):rD a b=if mY a b=true then(if(a.length:Int)+b.length-mcount a b=0 then 1000 else(1000*(mcount a b:Int)).tdiv ((a.length:Int)+b.length-mcount a b))else 0:=by
 unfold rD;split
 ·rename_i h;simp only[mY,jM,Bool.and_eq_true]at h;have ha:=O9.1 h.1.2;have hb:=O9.1 h.2.2;have h1:=ahM ha hb;rw[JB ha hb,al2 ha,ratio];have h2:((NA a b).length:Int)=a.length+b.length-(a.filter (zF b)).length:=by omega
  rw[h2]
 ·rfl
def zB (c:UInt8):Bool:=(decide (97<=c.toNat)&&decide (c.toNat<=122))||(decide (48<=c.toNat)&&decide (c.toNat<=57))
theorem LD (c:UInt8):zB c=true↔nN c=true/\cK c=c:=by
 simp only[zB,nN,Bool.or_eq_true,Bool.and_eq_true,decide_eq_true_eq];constructor
 ·intro h;exact⟨by omega,IQ (by omega)⟩
 ·rintro⟨h1,h2⟩;rcases h1 with h1|h1
  ·rcases h1 with h1|h1
   ·exact .inl h1
   ·exfalso;have:=UV h1.1 h1.2;rw[h2]at this;omega
  ·exact .inr h1
theorem axG (c:Str):JE c=(decide (c≠[])&&c.all zB):=by
 unfold JE nH;rw[Bool.and_assoc];congr 1;rw[Bool.eq_iff_iff,Bool.and_eq_true,decide_eq_true_eq,List.all_eq_true,List.all_eq_true];constructor
 ·rintro⟨h1,h2⟩ x hx;refine(LD x).2 ⟨h1 x hx,?_⟩;have:=List.map_inj_left.1 (h2.trans (List.map_id c).symm) x hx;simpa using this
 ·intro h;refine⟨fun x hx=>((LD x).1 (h x hx)).1,?_⟩;exact(List.map_congr_left fun x hx=>((LD x).1 (h x hx)).2).trans (by simp)
def blkIn (l:List Int)(i:Nat)(o:List (List Int)):List (List Int):=if at1 l i=o.length then o++[[]]else o
def iZ (l:List Int)(i:Nat)(o:List (List Int)):List (List Int):=(blkIn l i o).set (at1 l i).toNat (gat (blkIn l i o) (at1 l i).toNat++[(i:Int)])
def blocksP (l:List Int):List (List Int):=loopN l.length [] (iZ l)
structure ZQ (l:List Int) (i:Nat) (o:List (List Int)):Prop where
 lt:∀j<i,at1 l j<o.length
 ex:∀v:Int,0<=v->v<o.length->∃j<i,at1 l j=v
 len:o.length<=i
 row:∀v:Nat,v<o.length->gat o v=((List.range i).filter fun j=>decide (at1 l j=v)).map fun j:Nat=>(j:Int)
theorem akX {o:List (List Int)}{k:Nat}{r:List Int}(v:Nat)(hk:k<o.length):gat (o.set k r) v=if k=v then r else gat o v:=by
 simp only[gat,List.getD_eq_getElem?_getD,List.getElem?_set];by_cases h:k=v
 ·subst h;simp[hk]
 ·simp[h]
theorem aq6 (o:List (List Int))(r:List Int)(v:Nat):gat (o++[r]) v=if v=o.length then r else gat o v:=by
 simp only[gat,List.getD_eq_getElem?_getD];by_cases h:v<o.length
 ·rw[List.getElem?_append_left h,if_neg (by omega)]
 ·by_cases h2:v=o.length
  ·subst h2;simp
  ·rw[if_neg h2,List.getElem?_eq_none (by simp;omega),List.getElem?_eq_none (by omega)]
theorem ZQ.zero (l:List Int):ZQ l 0 []:=⟨fun j hj=>by omega,fun v h1 h2=>by simp at h2;omega,by simp,fun v hv=>by simp at hv⟩
theorem ZQ.le {l:List Int}{i:Nat}{o:List (List Int)}(h:ZQ l i o)(hr:RG l)(hi:i<l.length):0<=at1 l i/\at1 l i<=o.length:=by
 obtain⟨h1,h2⟩:=hr i hi;refine⟨h1,?_⟩;rcases Int.lt_or_le (o.length:Int) (at1 l i)with hlt|hle
 ·obtain⟨j,hj,e⟩:=h2 o.length (by omega) hlt;have:=h.lt j hj;omega
 ·exact hle
theorem ZQ.step {l:List Int}{i:Nat}{o:List (List Int)}(h:ZQ l i o)(hr:RG l)(hi:i<l.length):(at1 l i).toNat<(blkIn l i o).length/\ZQ l (i+1) (iZ l i o):=by
 have hle:=h.le hr hi
 have hin:(blkIn l i o).length=(if at1 l i=o.length then o.length+1 else o.length)/\∀v:Nat,gat (blkIn l i o) v=if v<o.length then gat o v else[]:=by
  unfold blkIn;split
  ·refine⟨by simp,fun v=> ?_⟩;rw[aq6];split
   ·rw[if_neg (by omega)]
   ·split
    ·rfl
    ·simp[gat,List.getD_eq_getElem?_getD,List.getElem?_eq_none (show o.length<=v by omega)]
  ·refine⟨rfl,fun v=> ?_⟩;split
   ·rfl
   ·simp[gat,List.getD_eq_getElem?_getD,List.getElem?_eq_none (show o.length<=v by omega)]
 have hlt:(at1 l i).toNat<(blkIn l i o).length:=by rw[hin.1];split<;>omega
 refine⟨hlt,?_⟩;have hlen:(iZ l i o).length=(if at1 l i=o.length then o.length+1 else o.length):=by simp[iZ,hin.1]
 refine⟨fun j hj=> ?_,fun v h1 h2=> ?_,?_,fun v hv=> ?_⟩
 ·by_cases hji:j=i
  ·subst hji;rw[hlen];split<;>omega
  ·have:=h.lt j (by omega);rw[hlen];split<;>omega
 ·rw[hlen]at h2;by_cases hv:v<o.length
  ·obtain⟨j,hj,e⟩:=h.ex v h1 hv;exact⟨j,by omega,e⟩
  ·refine⟨i,by omega,?_⟩;split at h2<;>omega
 ·have:=h.len;rw[hlen];split<;>omega
 ·rw[hlen]at hv;rw[iZ,akX v hlt,hin.2,hin.2,List.range_succ,List.filter_append,List.map_append];by_cases hvi:(at1 l i).toNat=v
  ·rw[if_pos hvi];have hd:decide (at1 l i=(v:Int))=true:=by simp;omega
   simp only[List.filter_cons,hd,if_true,List.filter_nil,List.map_cons,List.map_nil];congr 1;rw[hvi];split
   ·rename_i hvo;exact h.row v hvo
   ·-- a row that is new:no earlier item has its label
    rename_i hvo;rw[List.filter_eq_nil_iff.2,List.map_nil];intro j hj;have:=h.lt j (List.mem_range.1 hj);simp;omega
  ·rw[if_neg hvi];have hd:decide (at1 l i=(v:Int))=false:=by simp;omega
   have hvo:v<o.length:=by
    split at hv
    ·omega
    ·exact hv
   simp[hd,if_pos hvo,h.row v hvo]
theorem blocksI {l:List Int}(hr:RG l){i:Nat}(hi:i<=l.length):ZQ l i (loopN i [] (iZ l)):=by
 induction i with
 |zero=>exact .zero l
 |succ i ih=>rw[aA];exact((ih (by omega)).step hr (by omega)).2
def dZ (m:List (List Int))(items:List Int):List (List Int):=items.map fun x=>items.map fun y=>at2 m x.toNat y.toNat
def GK (n:Nat)(items:List Int):Prop:=(∀x∈items,0<=x/\x<n)/\items.Pairwise (·<·)
structure S20 where
 best:List Int
 cost:Int
 count:Int
def akB (cs:List Con)(l:List Int):Bool:=cs.any fun c=>decide (c.b=(l.length:Int)-1)&&(decide (at1 l c.a.toNat=at1 l (l.length-1)) !=c.same)
def rZ (m:List (List Int))(l:List Int)(k:Int)(n i:Nat):Int:=if at2 m i n>0/\at1 l i≠k then at2 m i n else if at2 m i n<0/\at1 l i=k then-at2 m i n else 0
def VO (m:List (List Int))(l:List Int)(k:Int)(n:Nat)(c:Int):Int:=loopN n c fun i s=>s+rZ m l k n i
def LW (l:List Int)(cost:Int)(s:S20):S20:=if s.cost<0\/cost<s.cost then⟨l,cost,1⟩else⟨s.best,s.cost,s.count+1⟩
def K4 (cost:Int)(s:S20):Prop:=0<=s.cost/\s.cost<cost
instance(cost:Int) (s:S20):Decidable (K4 cost s):=by unfold K4;infer_instance
def walk20 (m:List (List Int))(cs:List Con):Nat->List Int->Int->Int->S20->S20
 |0,l,_,cost,s=>if K4 cost s then s else LW l cost s
 |d+1,l,top,cost,s=>if K4 cost s then s else loopN (top+2).toNat s fun k s=>if akB cs (l++[(k:Int)])=true then s else walk20 m cs d (l++[(k:Int)]) (max top k) (VO m l k l.length cost) s
def sV (m:List (List Int))(cs:List Con)(d:Nat)(l:List Int)(top cost:Int)(k:Nat)(s:S20):S20:=if akB cs (l++[(k:Int)])=true then s else walk20 m cs d (l++[(k:Int)]) (max top k) (VO m l k l.length cost) s
theorem walk20_succ (m:List (List Int))(cs:List Con)(d:Nat)(l:List Int)(top cost:Int)(s:S20):walk20 m cs (d+1) l top cost s=if K4 cost s then s else loopN (top+2).toNat s (sV m cs d l top cost):=rfl
def TH (m:List (List Int))(cs:List Con):S20:=walk20 m cs m.length [] (-1) 0 ⟨[], -1,0⟩
theorem atU {m:List (List Int)}(h:aI m=true)(l:List Int)(k:Int)(n i:Nat):0<=rZ m l k n i/\rZ m l k n i<=1000:=by
 have:=cB h i n;unfold rZ;split
 ·omega
 ·split<;>omega
theorem aqL {m:List (List Int)}(h:aI m=true)(l:List Int)(k:Int)(n:Nat)(c:Int)(j:Nat):c<=loopN j c (fun i s=>s+rZ m l k n i)/\loopN j c (fun i s=>s+rZ m l k n i)<=c+1000*j:=
 loopN_inv (fun j x=>c<=x/\x<=c+1000*j) (by omega) fun i x _ hx=>by have:=atU h l k n i;omega
theorem aCI (d:Nat):1<=9^d:=Nat.one_le_pow _ _ (by omega)
structure W20 (d:Nat) (n:Nat) (s s':S20):Prop where
 lo:0<=s.count->0<=s'.count
 hi:0<=s.count->s'.count<=s.count+(9^d:Nat)
 best:s'.best=s.best\/s'.best.length=n
theorem agC {m:List (List Int)}{cs:List Con}:∀(d:Nat) (l:List Int) (top cost:Int) (s:S20),top+2+d<=9->W20 d (l.length+d) s (walk20 m cs d l top cost s)
 |0,l,top,cost,s,_=>by
  unfold walk20;split
  ·exact⟨id,fun h=>by simp;omega,.inl rfl⟩
  ·unfold LW;split
   ·exact⟨fun _=>by simp,fun h=>by simp;omega,.inr rfl⟩
   ·exact⟨fun h=>by simp only;omega,fun h=>by simp,.inl rfl⟩
 |d+1,l,top,cost,s,ht=>by
  rw[walk20_succ];have hp:=aCI d;split
  ·exact⟨id,fun h=>by omega,.inl rfl⟩
  ·have key:∀j≤(top+2).toNat,(0<=s.count->0<=(loopN j s (sV m cs d l top cost)).count/\(loopN j s (sV m cs d l top cost)).count<=s.count+((j*9^d:Nat):Int))/\((loopN j s (sV m cs d l top cost)).best=s.best\/(loopN j s (sV m cs d l top cost)).best.length=l.length+(d+1)):=by
    intro j hj
    induction j with
    |zero=>exact⟨fun h=>⟨h,by simp[loopN_zero]⟩,.inl rfl⟩
    |succ j ih=>
     obtain⟨i1,i2⟩:=ih (by omega);rw[aA];generalize loopN j s (sV m cs d l top cost)=x at i1 i2|-
     unfold sV;have hmul:(j+1)*9^d=j*9^d+9^d:=by rw[Nat.add_mul,Nat.one_mul]
     split
     ·exact⟨fun h=>⟨(i1 h).1,by have:=(i1 h).2;rw[hmul];omega⟩,i2⟩
     ·have h3:=agC (m:=m) (cs:=cs) d (l++[(j:Int)]) (max top j) (VO m l j l.length cost) x (by omega);refine⟨fun h=>⟨h3.lo (i1 h).1,by have:=h3.hi (i1 h).1;have:=(i1 h).2;rw[hmul];omega⟩,?_⟩;rcases h3.best with e|e
      ·rw[e];exact i2
      ·right;rw[e,List.length_append,List.length_singleton];omega
   obtain⟨k1,k2⟩:=key _ (Nat.le_refl _);have hm:(top+2).toNat*9^d<=9*9^d:=Nat.mul_le_mul_right _ (by omega);have hs:9^(d+1)=9*9^d:=by rw[Nat.pow_succ,Nat.mul_comm]
   exact⟨fun h=>(k1 h).1,fun h=>by have:=(k1 h).2;rw[hs];omega,k2⟩
def gN (cs:List Con)(l:List Int):Bool:=cs.all (oH l)
def fV (m:List (List Int))(cs:List Con)(l:List Int)(s:S20):S20:=
 if gN cs l=true then(if s.cost<0\/aQ m l<s.cost then⟨l,aQ m l,1⟩else if aQ m l=s.cost then⟨s.best,s.cost,s.count+1⟩else s)else s
def jL (f:List Int->S20->S20):Nat->List Int->Nat->S20->S20
 |0,l,_,s=>f l s
 |d+1,l,nx,s=>loopN (nx+1) s fun x s=>jL f d (l++[(x:Int)]) (max nx (x+1)) s
def oO (m:List (List Int))(cs:List Con):S20:=jL (fV m cs) m.length [] 0 ⟨[], -1,0⟩
def okP (cs:List Con)(l:List Int):Prop:=∀c∈cs,c.b<l.length->decide (at1 l c.a.toNat=at1 l c.b.toNat)=c.same
theorem fH (l:List Int)(k:Int)(i:Nat):at1 (l++[k]) i=if i<l.length then at1 l i else if i=l.length then k else 0:=by
 simp only[at1,List.getD_eq_getElem?_getD];by_cases h:i<l.length
 ·rw[List.getElem?_append_left h,if_pos h]
 ·rw[if_neg h];by_cases h2:i=l.length
  ·subst h2;simp
  ·rw[if_neg h2,List.getElem?_eq_none (by simp;omega)];rfl
section
variable {m:List (List Int)}{cs:List Con}
theorem VR {n:Int}(hc:aK n cs=true)(l:List Int)(k:Int):okP cs (l++[k])↔okP cs l/\akB cs (l++[k])=false:=by
 have hn:=(fO hc).2.2.2;have hlen:(l++[k]).length=l.length+1:=by simp
 constructor
 ·intro h;refine⟨fun c hcs hb=> ?_,?_⟩
  ·have:=h c hcs (by rw[hlen];omega);have h2:=hn c hcs;rw[fH,fH,if_pos (by omega),if_pos (by omega)]at this;exact this
  ·rw[akB,List.any_eq_false];intro c hcs hb;simp only[Bool.and_eq_true,decide_eq_true_eq,bne_iff_ne,ne_eq]at hb;have h2:=hn c hcs;have:=h c hcs (by rw[hlen]at hb|-;omega);apply hb.2;rw[←this,hlen];have e:c.b.toNat=l.length:=by rw[hlen]at hb;omega
   rw[e];rfl
 ·rintro⟨h1,h2⟩ c hcs hb;have h3:=hn c hcs;by_cases hlt:c.b<l.length
  ·have:=h1 c hcs hlt;rw[fH,fH,if_pos (by omega),if_pos (by omega)];exact this
  ·rw[akB,List.any_eq_false]at h2;have h4:=h2 c hcs;rw[hlen]at hb h4;have e:c.b.toNat=l.length:=by omega
   simp only[Bool.and_eq_true,decide_eq_true_eq,bne_iff_ne,ne_eq,not_and,Classical.not_not]at h4;rw[e];exact h4 (by omega)
theorem QI {n:Int}(hc:aK n cs=true){l:List Int}(hl:(l.length:Int)=n):gN cs l=true↔okP cs l:=by
 have hn:=(fO hc).2.2.2;rw[gN,List.all_eq_true];constructor
 ·intro h c hcs hb;have:=h c hcs;simp only[oH,Bool.and_eq_true,beq_iff_eq]at this;exact this.2
 ·intro h c hcs;have h2:=hn c hcs;have:=h c hcs (by omega);simp only[oH,Bool.and_eq_true,beq_iff_eq,decide_eq_true_eq];exact⟨⟨by omega,by omega⟩,this⟩
theorem awW {n:Int}(hc:aK n cs=true){l:List Int}(h:¬okP cs l)(k:Int):¬okP cs (l++[k]):=fun h2=>h ((VR hc l k).1 h2).1
theorem abJ {n:Int}(hc:aK n cs=true):∀(d:Nat) (l:List Int) (nx:Nat) (s:S20),((l.length+d:Nat):Int)=n->¬okP cs l->jL (fV m cs) d l nx s=s
 |0,l,nx,s,hl,h=>by
  rw[jL,fV,if_neg];intro hk;exact h ((QI hc (by simpa using hl)).1 hk)
 |d+1,l,nx,s,hl,h=>by
  rw[jL];refine loopN_inv (fun _ x=>x=s) rfl fun i x _ hx=> ?_;rw[hx];exact abJ hc d _ _ s (by simp only[List.length_append,List.length_singleton];omega) (awW hc h _)
theorem PV (hm:aI m=true)(i k:Nat):at2 m i k=at2 m k i:=by
 by_cases hi:i<m.length
 ·by_cases hk:k<m.length
  ·simp only[aI,Bool.and_eq_true,List.all_eq_true,List.mem_range]at hm;have:=hm.1.2 i hi k hk;simp only[wT,Bool.and_eq_true,decide_eq_true_eq]at this;exact this.1.2
  ·obtain⟨r,hr,hrl⟩:=sP hm hi;simp[at2,List.getD_eq_getElem?_getD,hr,List.getElem?_eq_none (show r.length<=k by omega),List.getElem?_eq_none (show m.length<=k by omega)]
 ·by_cases hk:k<m.length
  ·obtain⟨r,hr,hrl⟩:=sP hm hk;simp[at2,List.getD_eq_getElem?_getD,hr,List.getElem?_eq_none (show r.length<=i by omega),List.getElem?_eq_none (show m.length<=i by omega)]
  ·simp[at2,List.getD_eq_getElem?_getD,List.getElem?_eq_none (show m.length<=i by omega),List.getElem?_eq_none (show m.length<=k by omega)]
theorem nK {σ:Type}{n:Nat}{s:σ}{f g:Nat->σ->σ}(h:∀i x,i<n->f i x=g i x):loopN n s f=loopN n s g:=by
 have:∀k≤n,loopN k s f=loopN k s g:=by
  intro k hk
  induction k with
  |zero=>rfl
  |succ k ih=>rw[aA,aA,ih (by omega),h _ _ (by omega)]
 exact this n (Nat.le_refl n)
theorem KE (hm:aI m=true)(l:List Int)(k:Int):aQ m (l++[k])=VO m l k l.length (aQ m l):=by
 unfold aQ;rw[List.length_append,List.length_singleton,aA]
 have h1:loopN l.length 0 (pU m (l++[k]))=loopN l.length 0 (pU m l):=nK fun i x hi=>by
  unfold pU;refine nK fun j y hj=> ?_
  have:kV m (l++[k]) i j=kV m l i j:=by
   have e1:at1 (l++[k]) i=at1 l i:=by rw[fH,if_pos hi]
   have e2:at1 (l++[k]) j=at1 l j:=by rw[fH,if_pos (by omega)]
   unfold kV;rw[e1,e2]
  rw[this]
 rw[h1];unfold pU VO;refine nK fun j y hj=> ?_;congr 1;have e1:at1 (l++[k]) l.length=k:=by rw[fH,if_neg (by omega),if_pos rfl]
 have e2:at1 (l++[k]) j=at1 l j:=by rw[fH,if_pos hj]
 unfold kV rZ;rw[e1,e2,PV hm l.length j];by_cases e:at1 l j=k
 ·simp[e]
 ·have e2:¬k=at1 l j:=fun h=>e h.symm;simp[e,e2]
theorem ZN (hm:aI m=true)(l:List Int)(k:Int):aQ m l<=aQ m (l++[k]):=by
 rw[KE hm];exact(aqL hm l k l.length (aQ m l) l.length).1
theorem YW (hm:aI m=true):∀(d:Nat) (l:List Int) (nx:Nat) (s:S20),K4 (aQ m l) s->jL (fV m cs) d l nx s=s
 |0,l,nx,s,h=>by
  unfold K4 at h;rw[jL,fV];split
  ·rw[if_neg (by omega),if_neg (by omega)]
  ·rfl
 |d+1,l,nx,s,h=>by
  unfold K4 at h;rw[jL];refine loopN_inv (fun _ x=>x=s) rfl fun i x _ hx=> ?_;rw[hx];refine YW hm d _ _ s ?_;have:=ZN hm l (i:Int);unfold K4;omega
theorem abG (hm:aI m=true)(hc:aK m.length cs=true):∀(d:Nat) (l:List Int) (top:Int) (s:S20),l.length+d=m.length-> -1<=top->okP cs l->walk20 m cs d l top (aQ m l) s=jL (fV m cs) d l (top+1).toNat s
 |0,l,top,s,hl,ht,ho=>by
  have hk:=(QI hc (l:=l) (by omega)).2 ho;rw[walk20,jL,fV,if_pos hk];split
  ·rename_i h;unfold K4 at h;rw[if_neg (by omega),if_neg (by omega)]
  ·rename_i h;unfold K4 at h;unfold LW;split
   ·rfl
   ·rw[if_pos (by omega)]
 |d+1,l,top,s,hl,ht,ho=>by
  rw[walk20_succ];split
  ·rename_i h;rw[YW hm _ _ _ _ h]
  ·rw[jL,show(top+2).toNat=(top+1).toNat+1 by omega];refine nK fun i x hi=> ?_;unfold sV;have hlen:(l++[(i:Int)]).length=l.length+1:=by simp
   split
   ·rename_i hb;rw[abJ hc d _ _ x (by rw[hlen];omega)];intro h2;have:=((VR hc l i).1 h2).2;rw[hb]at this;cases this
   ·rename_i hb;have hok:=(VR hc l i).2 ⟨ho,by simpa using hb⟩;rw[←KE hm,abG hm hc d _ _ x (by rw[hlen];omega) (by omega) hok];congr 1;omega
theorem MW (hm:aI m=true)(hc:aK m.length cs=true):TH m cs=oO m cs:=
 abG hm hc m.length [] (-1) _ (by simp) (by omega) (fun c hcs hb=>by have:=(fO hc).2.2.2 c hcs;simp at hb;omega)
theorem OO {l:List Int}{nx:Nat}(hl:RG l)(hnx:∀v:Int,0<=v->v<nx->∃j<l.length,at1 l j=v){x:Nat}(hx:x<=nx):RG (l++[(x:Int)]):=by
 intro k hk;simp only[List.length_append,List.length_singleton]at hk;by_cases hkl:k<l.length
 ·rw[fH,if_pos hkl];refine⟨(hl k hkl).1,fun v h1 h2=> ?_⟩;obtain⟨j,hj,e⟩:=(hl k hkl).2 v h1 h2;exact⟨j,hj,by rw[fH,if_pos (by omega),e]⟩
 ·obtain rfl:k=l.length:=by omega
  rw[fH,if_neg (by omega),if_pos rfl];refine⟨by omega,fun v h1 h2=> ?_⟩;obtain⟨j,hj,e⟩:=hnx v h1 (by omega);exact⟨j,hj,by rw[fH,if_pos hj,e]⟩
theorem abU {l:List Int}{nx:Nat}(hnx:∀v:Int,0<=v->v<nx->∃j<l.length,at1 l j=v){x:Nat}(hx:x<=nx):∀v:Int,0<=v->v<(max nx (x+1):Nat)->∃j<(l++[(x:Int)]).length,at1 (l++[(x:Int)]) j=v:=by
 intro v h1 h2;by_cases hv:v<nx
 ·obtain⟨j,hj,e⟩:=hnx v h1 hv;exact⟨j,by simp;omega,by rw[fH,if_pos hj,e]⟩
 ·exact⟨l.length,by simp,by rw[fH,if_neg (by omega),if_pos rfl];omega⟩
def Found (n:Nat)(s:S20):Prop:= -1<=s.cost/\(0<=s.cost->RG s.best/\s.best.length=n)
theorem d9 (hm:aI m=true)(l:List Int):0<=aQ m l:=by
 refine loopN_inv (fun _ x=>0<=x) (by omega) fun i x _ hx=> ?_;refine loopN_inv (fun _ y=>0<=y) hx fun k y _ hy=> ?_;have:=cB hm i k;unfold kV;split
 ·omega
 ·split<;>omega
theorem EP (hm:aI m=true):∀(d:Nat) (l:List Int) (nx:Nat) (s:S20),RG l->(∀v:Int,0<=v->v<nx->∃j<l.length,at1 l j=v)->Found (l.length+d) s->Found (l.length+d) (jL (fV m cs) d l nx s)/\(0<=s.cost->0<=(jL (fV m cs) d l nx s).cost)
 |0,l,nx,s,hl,hnx,hs=>by
  have hp:=d9 hm l;rw[jL,fV];split
  ·split
   ·exact⟨⟨by simp only;omega,fun _=>⟨hl,rfl⟩⟩,fun _=>hp⟩
   ·split
    ·exact⟨⟨hs.1,hs.2⟩,fun h=>h⟩
    ·exact⟨hs,fun h=>h⟩
  ·exact⟨hs,fun h=>h⟩
 |d+1,l,nx,s,hl,hnx,hs=>by
  rw[jL];refine loopN_inv (fun _ x=>Found (l.length+(d+1)) x/\(0<=s.cost->0<=x.cost)) ⟨hs,fun h=>h⟩ fun i x hi ⟨h1,h2⟩=> ?_;have hlen:(l++[(i:Int)]).length+d=l.length+(d+1):=by simp;omega
  have h3:=EP hm d (l++[(i:Int)]) (max nx (i+1)) x (OO hl hnx (by omega)) (abU hnx (by omega)) (by rw[hlen];exact h1);rw[hlen]at h3;exact⟨h3.1,fun h=>h3.2 (h2 h)⟩
theorem R7 (hm:aI m=true):∀(d:Nat) (l e:List Int) (nx:Nat) (s:S20),RG (l++e)->e.length=d->(∀v:Int,0<=v->v<nx->∃j<l.length,at1 l j=v)->(∀j<l.length,at1 l j<nx)->RG l->Found (l.length+d) s->gN cs (l++e)=true->0<=(jL (fV m cs) d l nx s).cost
 |0,l,e,nx,s,hr,he,hnx,hlt,hl,hs,hk=>by
  obtain rfl:e=[]:=List.eq_nil_of_length_eq_zero he;rw[List.append_nil]at hk;have hp:=d9 hm l;rw[jL,fV,if_pos hk];split
  ·exact hp
  ·split
   ·simp only;omega
   ·omega
 |d+1,l,e,nx,s,hr,he,hnx,hlt,hl,hs,hk=>by
  cases e with
  |nil=>simp at he
  |cons x e=>
   have hlx:at1 (l++x::e) l.length=x:=by simp[at1,List.getD_eq_getElem?_getD]
   have hx:=hr l.length (by simp);rw[hlx]at hx
   have hxn:x<=nx:=by
    rcases Int.lt_or_le (nx:Int) x with hlt2|hle
    ·obtain⟨j,hj,ej⟩:=hx.2 nx (by omega) hlt2;have e2:at1 (l++x::e) j=at1 l j:=by simp[at1,List.getD_eq_getElem?_getD,List.getElem?_append_left hj]
     rw[e2]at ej;have:=hlt j hj;omega
    ·exact hle
   obtain⟨x,rfl⟩:∃k:Nat,x=k:=⟨x.toNat,by omega⟩;rw[jL]
   have key:∀j≤nx+1,Found (l.length+(d+1)) (loopN j s fun x s=>jL (fV m cs) d (l++[(x:Int)]) (max nx (x+1)) s)/\(x<j->0<=(loopN j s fun x s=>jL (fV m cs) d (l++[(x:Int)]) (max nx (x+1)) s).cost):=by
    intro j hj
    induction j with
    |zero=>exact⟨hs,by omega⟩
    |succ j ih=>
     obtain⟨i1,i2⟩:=ih (by omega);rw[aA];generalize(loopN j s fun x s=>jL (fV m cs) d (l++[(x:Int)]) (max nx (x+1)) s)=y at i1 i2|-
     have hlen:(l++[(j:Int)]).length+d=l.length+(d+1):=by simp;omega
     have h3:=EP (cs:=cs) hm d (l++[(j:Int)]) (max nx (j+1)) y (OO hl hnx (by omega)) (abU hnx (by omega)) (by rw[hlen];exact i1);rw[hlen]at h3;refine⟨h3.1,fun hlt2=> ?_⟩;by_cases hjx:j=x
     ·subst hjx;refine R7 hm d (l++[(j:Int)]) e (max nx (j+1)) y (by simpa using hr) (by simpa using he) (abU hnx (by omega)) (fun i hi=> ?_) (OO hl hnx (by omega)) (by rw[hlen];exact i1) (by simpa using hk);rw[fH];simp only[List.length_append,List.length_singleton]at hi;split
      ·have:=hlt i (by omega);omega
      ·split<;>omega
     ·exact h3.2 (i2 (by omega))
   exact(key (nx+1) (Nat.le_refl _)).2 (by omega)
theorem ai8:RG []:=fun k hk=>by simp at hk
theorem ab9 (hm:aI m=true):Found m.length (oO m cs):=by
 have:=(EP (cs:=cs) hm m.length [] 0 ⟨[], -1,0⟩ ai8 (fun v h1 h2=>by omega) ⟨by simp,fun h=>by simp at h⟩).1;simpa[oO]using this
theorem abV (hm:aI m=true){L:List Int}(hL:RG L)(hl:L.length=m.length)(hk:gN cs L=true):0<=(oO m cs).cost:=
 R7 hm m.length [] L 0 _ (by simpa using hL) hl (fun v h1 h2=>by omega) (fun j hj=>by simp at hj) ai8 ⟨by simp,fun h=>by simp at h⟩ (by simpa using hk)
end
theorem VQ {n:Nat}{M:List (List Bool)}(h:sqB n M){i k a b:Nat}(hi:i<n)(hk:k<n)(v:Bool):atB (JK M i k v) a b=if a=i/\b=k then v else atB M a b:=by
 obtain⟨r,hr,hrl,hrk⟩:=NT h hi hk;rw[MV hr];simp only[atB,List.getD_eq_getElem?_getD,List.getElem?_set];by_cases ha:i=a
 ·subst ha;rw[if_pos rfl,if_pos (by rw[h.1];exact hi)];simp only[Option.getD_some,List.getElem?_set];by_cases hb:k=b
  ·subst hb;rw[if_pos rfl,if_pos (by omega)];simp
  ·rw[if_neg hb,if_neg (fun e=>hb e.2.symm)];simp[hr]
 ·rw[if_neg ha,if_neg (fun e=>ha e.1.symm)]
theorem as1 (n a b:Nat):atB (noLinks n) a b=false:=by
 simp only[atB,noLinks,List.getD_eq_getElem?_getD,List.getElem?_replicate];split
 ·simp[List.getElem?_replicate];split<;>rfl
 ·simp
def DV (c:Con)(a b:Nat):Prop:=c.same=true/\((c.a=a/\c.b=b)\/(c.a=b/\c.b=a))
theorem eT {n:Nat}:∀(cs:List Con),(∀c∈cs,0<=c.a/\c.a<c.b/\c.b<n)->sqB n (gM n cs)/\∀a b,atB (gM n cs) a b=true↔∃c∈cs,DV c a b:=by
 have key:∀(cs:List Con) (M:List (List Bool)),(∀c∈cs,0<=c.a/\c.a<c.b/\c.b<n)->sqB n M->sqB n (cs.foldl mustStep M)/\∀a b,atB (cs.foldl mustStep M) a b=true↔atB M a b=true\/∃c∈cs,DV c a b:=by
  intro cs
  induction cs with
  |nil=>intro M _ h;exact⟨h,fun a b=>by simp⟩
  |cons c cs ih=>
   intro M hc h;have h1:=hc c (by simp)
   have hsq:sqB n (mustStep M c):=by
    unfold mustStep;split
    ·exact sqB_set (sqB_set h)
    ·exact h
   obtain⟨g1,g2⟩:=ih (mustStep M c) (fun c hcs=>hc c (List.mem_cons_of_mem _ hcs)) hsq;refine⟨g1,fun a b=> ?_⟩;rw[List.foldl_cons,g2]
   have hst:atB (mustStep M c) a b=true↔atB M a b=true\/DV c a b:=by
    unfold mustStep DV;split
    ·rename_i hs;rw[VQ (sqB_set h) (by omega) (by omega),VQ h (by omega) (by omega)];simp only[hs,true_and];by_cases e1:a=c.b.toNat/\b=c.a.toNat
     ·rw[if_pos e1];simp;right;right;omega
     ·rw[if_neg e1];by_cases e2:a=c.a.toNat/\b=c.b.toNat
      ·rw[if_pos e2];simp;right;left;omega
      ·rw[if_neg e2];constructor
       ·exact .inl
       ·rintro(h|h|h)
        ·exact h
        ·exact absurd ⟨by omega,by omega⟩ e2
        ·exact absurd ⟨by omega,by omega⟩ e1
    ·rename_i hs;simp[hs]
   rw[hst];simp only[List.mem_cons,exists_eq_or_imp,or_assoc]
 intro cs hc;obtain⟨h1,h2⟩:=key cs (noLinks n) hc (V4 n);refine⟨h1,fun a b=>(h2 a b).trans ?_⟩;simp[as1]
theorem K8 {c:Con}{a b:Nat}(h:DV c a b):DV c b a:=⟨h.1,by rcases h.2 with h|h;(exact .inr h);exact .inl h⟩
theorem aoO {n:Nat}{cs:List Con}(hc:∀c∈cs,0<=c.a/\c.a<c.b/\c.b<n):aeM n (gM n cs):=fun a b _ _ h=>by
 obtain⟨c,h1,h2⟩:=((eT cs hc).2 a b).1 h;exact((eT cs hc).2 b a).2 ⟨c,h1,K8 h2⟩
theorem lU {n:Nat}{cs:List Con}(h:aK n cs=true):∀c∈cs,0<=c.a/\c.a<c.b/\c.b<(n:Int):=(fO h).2.2.2
theorem iB {n:Nat}{cs:List Con}(h:aK n cs=true):uZ n (gM n cs) (aV n cs):=UY (aoO (lU h))
theorem dA {n:Nat}{cs:List Con}:aX n cs=true↔aK n cs=true/\∀c∈cs,c.same=false->¬Reach n (gM n cs) c.a.toNat c.b.toNat:=by
 unfold aX nJ;rw[Bool.and_eq_true,decide_eq_true_eq];constructor
 ·rintro⟨h1,h2⟩;refine⟨h1,fun c hc hs hr=> ?_⟩;rw[if_pos h1]at h2;have hb:=lU h1 c hc;have h3:¬0<=ix (wY (aV n cs)) cs:=by omega
  rw[eH]at h3;apply h3;rw[List.any_eq_true];refine⟨c,hc,?_⟩;have:=((iB h1).2.2 c.a.toNat c.b.toNat (by omega) (by omega)).2 hr;simp[wY,hs,this]
 ·rintro⟨h1,h2⟩;refine⟨h1,?_⟩;rw[if_pos h1]
  have h3:¬0<=ix (wY (aV n cs)) cs:=by
   rw[eH,List.any_eq_true];rintro⟨c,hc,hb⟩;simp only[wY,Bool.and_eq_true,Bool.not_eq_true',decide_eq_true_eq]at hb;have hb2:=lU h1 c hc;exact h2 c hc hb.1 (((iB h1).2.2 c.a.toNat c.b.toNat (by omega) (by omega)).1 hb.2)
  omega
theorem J2 {n:Nat}{cs:List Con}(h:aX n cs=true):gN cs (aV n cs)=true:=by
 obtain⟨h1,h2⟩:=dA.1 h;have hL:=iB h1;rw[QI h1 (by rw[hL.1])];intro c hc hb;have hb2:=lU h1 c hc;have hi:=hL.2.2 c.a.toNat c.b.toNat (by omega) (by omega);cases hs:c.same with
 |true=>
  rw[decide_eq_true_eq,hi];exact .step (.refl _) (by omega) (by omega) (((eT cs (lU h1)).2 _ _).2 ⟨c,hc,hs,.inl ⟨by omega,by omega⟩⟩)
 |false=>
  rw[decide_eq_false_iff_not,hi];exact h2 c hc hs
theorem ayK {m:List (List Int)}{cs:List Con}(hm:aI m=true)(h:aX m.length cs=true):0<=(oO m cs).cost/\RG (oO m cs).best/\(oO m cs).best.length=m.length:=by
 have hL:=iB (dA.1 h).1;have h1:=abV (cs:=cs) hm hL.2.1 hL.1 (J2 h);exact⟨h1,(ab9 hm).2 h1⟩
theorem rA {n:Int}{a b:List Con}(h:a.Perm b):aK n a=aK n b:=by
 have h1:a.all (EI n)=b.all (EI n):=h.all_eq;unfold aK;rw[h1,h.length_eq]
theorem M0 {n:Nat}{a b:List Con}(ha:aK n a=true)(hb:aK n b=true)(h:∀c,c∈a↔c∈b):aV n a=aV n b:=by
 have hla:=iB ha;have hlb:=iB hb
 have hm:∀x y,atB (gM n a) x y=true↔atB (gM n b) x y=true:=fun x y=>by
  rw[(eT a (lU ha)).2,(eT b (lU hb)).2];simp only[h]
 refine RG.unique (by rw[hla.1,hlb.1]) hla.2.1 hlb.2.1 fun i k hi hk=> ?_;rw[hla.1]at hi hk;rw[hla.2.2 i k hi hk,hlb.2.2 i k hi hk];exact⟨fun hr=>hr.mono fun x y _ _ e=>(hm x y).1 e,fun hr=>hr.mono fun x y _ _ e=>(hm x y).2 e⟩
theorem D8 {n:Nat}{a b:List Con}(h:a.Perm b):aX n a=aX n b:=by
 rw[Bool.eq_iff_iff,dA,dA,rA h];refine and_congr_right fun hb=> ?_;have ha:aK n a=true:=by rw[rA h];exact hb
 have hm:∀x y,atB (gM n a) x y=true↔atB (gM n b) x y=true:=fun x y=>by
  rw[(eT a (lU ha)).2,(eT b (lU hb)).2];simp only[h.mem_iff]
 have hr:∀x y,Reach n (gM n a) x y↔Reach n (gM n b) x y:=fun x y=>⟨fun hr=>hr.mono fun x y _ _ e=>(hm x y).1 e,fun hr=>hr.mono fun x y _ _ e=>(hm x y).2 e⟩;simp only[h.mem_iff,hr]
theorem ahC {a b:List Con}(h:a.Perm b)(l:List Int):gN a l=gN b l:=h.all_eq
theorem aiK {m:List (List Int)}{a b:List Con}(h:a.Perm b):fV m a=fV m b:=by
 funext l s;unfold fV;rw[ahC h]
theorem af1 {m:List (List Int)}{a b:List Con}(h:a.Perm b):oO m a=oO m b:=by
 unfold oO;rw[aiK h]
theorem ac7 {a b:List Con}(h:a.Perm b)(items:List Int):(bZ a items).Perm (bZ b items):=h.filterMap _
theorem ae9 {n:Nat}(f:Nat->Nat->Bool):let L:=loopN n (noLinks n) fun i M=>loopN n M fun k M=>JK M i k (f i k);sqB n L/\∀a b,a<n->b<n->atB L a b=f a b:=by
 have key:∀i≤n,sqB n (loopN i (noLinks n) fun i M=>loopN n M fun k M=>JK M i k (f i k))/\∀a b,a<n->b<n->atB (loopN i (noLinks n) fun i M=>loopN n M fun k M=>JK M i k (f i k)) a b=if a<i then f a b else false:=by
  intro i hi
  induction i with
  |zero=>exact⟨V4 n,fun a b _ _=>by rw[loopN_zero,as1];simp⟩
  |succ i ih=>
   obtain⟨h1,h2⟩:=ih (by omega);rw[aA];generalize(loopN i (noLinks n) fun i M=>loopN n M fun k M=>JK M i k (f i k))=M at h1 h2|-
   have row:∀k≤n,sqB n (loopN k M fun k M=>JK M i k (f i k))/\∀a b,a<n->b<n->atB (loopN k M fun k M=>JK M i k (f i k)) a b=if a=i/\b<k then f a b else if a<i then f a b else false:=by
    intro k hk
    induction k with
    |zero=>exact⟨h1,fun a b ha hb=>by rw[loopN_zero,h2 a b ha hb,if_neg (c:=a=i/\b<0) (by omega)]⟩
    |succ k ih2=>
     obtain⟨g1,g2⟩:=ih2 (by omega);rw[aA];refine⟨sqB_set g1,fun a b ha hb=> ?_⟩;rw[VQ g1 (by omega) (by omega)];by_cases e:a=i/\b=k
     ·obtain⟨rfl,rfl⟩:=e;rw[if_pos ⟨rfl,rfl⟩,if_pos ⟨rfl,by omega⟩]
     ·rw[if_neg e,g2 a b ha hb];by_cases e2:a=i/\b<k
      ·rw[if_pos e2,if_pos ⟨e2.1,by omega⟩]
      ·rw[if_neg e2,if_neg (c:=a=i/\b<k+1) (by omega)]
   obtain⟨g1,g2⟩:=row n (Nat.le_refl n);refine⟨g1,fun a b ha hb=> ?_⟩;rw[g2 a b ha hb];by_cases e:a=i
   ·subst e;rw[if_pos ⟨rfl,hb⟩,if_pos (by omega)]
   ·rw[if_neg (fun e2=>e e2.1)];by_cases e2:a<i
    ·rw[if_pos e2,if_pos (by omega)]
    ·rw[if_neg e2,if_neg (by omega)]
 obtain⟨h1,h2⟩:=key n (Nat.le_refl n);exact⟨h1,fun a b ha hb=>by rw[h2 a b ha hb,if_pos ha]⟩
theorem lL (m:List (List Int)):∀a b,a<m.length->b<m.length->atB (OZ m) a b=decide (at2 m a b>0):=(ae9 fun i k=>decide (at2 m i k>0)).2
theorem zQ (p q:List Int):∀a b,a<p.length->b<p.length->atB (IP p q) a b=(decide (at1 p a=at1 p b)||decide (at1 q a=at1 q b)):=(ae9 fun i k=>decide (at1 p i=at1 p k)||decide (at1 q i=at1 q k)).2
theorem CQ {m:List (List Int)}(hm:aI m=true):uZ m.length (OZ m) (iR m):=UY fun a b ha hb h=>by
 rw[lL m a b ha hb]at h;rw[lL m b a hb ha,PV hm b a];exact h
theorem RX (p q:List Int):uZ p.length (IP p q) (uT p q):=UY fun a b ha hb h=>by
 rw[zQ p q a b ha hb]at h;rw[zQ p q b a hb ha];simp only[Bool.or_eq_true,decide_eq_true_eq]at h|-
 rcases h with h|h
 ·exact .inl h.symm
 ·exact .inr h.symm
theorem ayG {m:List (List Int)}(hm:aI m=true):(VB m.length m).1=iR m:=
 au2 (fun a b ha hb=>by rw[lL m a b ha hb];simp) fun a b ha hb h=>by
  rw[lL m a b ha hb]at h;rw[lL m b a hb ha,PV hm b a];exact h
theorem WR {n:Nat}{M M':List (List Bool)}{l l':List Int}(h:uZ n M l)(h':uZ n M' l')(hm:∀a b,a<n->b<n->a≠b->(atB M a b=true↔atB M' a b=true)):l=l':=by
 have hr:∀{M M':List (List Bool)},(∀a b,a<n->b<n->a≠b->(atB M a b=true->atB M' a b=true))->∀i k,Reach n M i k->Reach n M' i k:=by
  intro M M' hm i k hr
  induction hr with
  |refl=>exact .refl _
  | @step a b _ ha hb h ih=>
   by_cases hab:a=b
   ·subst hab;exact ih
   ·exact .step ih ha hb (hm a b ha hb hab h)
 refine RG.unique (by rw[h.1,h'.1]) h.2.1 h'.2.1 fun i k hi hk=> ?_;rw[h.1]at hi hk;rw[h.2.2 i k hi hk,h'.2.2 i k hi hk];exact⟨hr (fun a b ha hb hab=>(hm a b ha hb hab).1) i k,hr (fun a b ha hb hab=>(hm a b ha hb hab).2) i k⟩
theorem BK {n:Nat}{M:List (List Bool)}{l:List Int}(h:uZ n M l)(h1:1<=n)(h8:n<=8):bJ l=true:=isPart_iff.2 ⟨h.2.1,by rw[h.1];omega⟩
theorem au6 {n:Nat}{cs:List Con}{X:List (List Int)}(hc:aK n cs=true)(hX:aI X=true)(hl:X.length=n)(h:∀a b,a<n->b<n->(0<at2 X a b↔∃c∈cs,DV c a b)):iR X=aV n cs:=by
 have h1:=CQ hX;rw[hl]at h1;refine WR h1 (iB hc) fun a b ha hb _=> ?_;rw[lL X a b (by omega) (by omega),decide_eq_true_eq,(eT cs (lU hc)).2];exact h a b ha hb
theorem ap6 {p q:List Int}{X:List (List Int)}(hX:aI X=true)(hl:X.length=p.length)(h:∀a b,a<p.length->b<p.length->a≠b->(0<at2 X a b↔at1 p a=at1 p b\/at1 q a=at1 q b)):iR X=uT p q:=by
 have h1:=CQ hX;rw[hl]at h1;refine WR h1 (RX p q) fun a b ha hb hab=> ?_;rw[lL X a b (by omega) (by omega),decide_eq_true_eq,zQ p q a b ha hb,Bool.or_eq_true,decide_eq_true_eq,decide_eq_true_eq];exact h a b ha hb hab
theorem yU {m:List (List Int)}{cs:List Con}(hm:aI m=true)(hc:aK m.length cs=true):aN m cs=uT (iR m) (aV m.length cs)/\bJ (aN m cs)=true/\(aN m cs).length=m.length:=by
 have hml:=aP hm;have h1:=CQ hm;have h2:=iB hc
 have hp:fU (iR m) (aV m.length cs)=true:=by
  simp only[fU,Bool.and_eq_true,decide_eq_true_eq];exact⟨⟨BK h1 hml.1 hml.2,BK h2 hml.1 hml.2⟩,by rw[h1.1,h2.1]⟩
 have e:aN m cs=uT (iR m) (aV m.length cs):=by
  rw[aN,if_pos ⟨hm,hc⟩,aeJ,if_pos hp]
 have h3:=RX (iR m) (aV m.length cs);rw[h1.1]at h3;rw[e];exact⟨rfl,BK h3 hml.1 hml.2,h3.1⟩
theorem JA {l:List Int}(hr:RG l){v:Nat}(hv:v<(blocksP l).length):GK l.length (gat (blocksP l) v)/\1<=(gat (blocksP l) v).length/\(gat (blocksP l) v).length<=l.length:=by
 have hI:=blocksI hr (Nat.le_refl l.length);have hrow:=hI.row v hv;have e:gat (blocksP l) v=((List.range l.length).filter fun j=>decide (at1 l j=v)).map fun j:Nat=>(j:Int):=hrow;rw[e];refine⟨⟨fun x hx=> ?_,?_⟩,?_,?_⟩
 ·obtain⟨j,hj,rfl⟩:=List.mem_map.1 hx;have:=List.mem_range.1 (List.mem_filter.1 hj).1;omega
 ·rw[List.pairwise_map];refine List.Pairwise.filter _ (List.pairwise_lt_range.imp fun h=>by omega)
 ·obtain⟨j,hj,e2⟩:=hI.ex v (by omega) (by have:(blocksP l).length=(loopN l.length [] (iZ l)).length:=rfl;omega);have hm:((j:Nat):Int)∈((List.range l.length).filter fun j=>decide (at1 l j=v)).map fun j:Nat=>(j:Int):=List.mem_map.2 ⟨j,List.mem_filter.2 ⟨List.mem_range.2 hj,by simpa using e2⟩,rfl⟩;exact List.length_pos_of_mem hm
 ·rw[List.length_map];have:=List.length_filter_le (fun j=>decide (at1 l j=(v:Int))) (List.range l.length);simpa using this
theorem ab7 {m:List (List Int)}{items:List Int}{i k:Nat}(hi:i<items.length)(hk:k<items.length):at2 (dZ m items) i k=at2 m (at1 items i).toNat (at1 items k).toNat:=by
 have h1:=aF hi;have h2:=aF hk;refine H8 (r:=items.map fun y=>at2 m (at1 items i).toNat y.toNat) ?_ ?_
 ·simp[dZ,h1]
 ·simp[h2]
theorem amU {m:List (List Int)}{items:List Int}(hm:aI m=true)(hl:1<=items.length/\items.length<=8)(hs:items.Pairwise (·<·)):aI (dZ m items)=true:=by
 have hlen:(dZ m items).length=items.length:=by simp[dZ]
 simp only[aI,Bool.and_eq_true,List.all_eq_true,List.mem_range,decide_eq_true_eq];refine⟨⟨fun r hr=> ?_,fun i hi k hk=> ?_⟩,by rw[hlen];omega⟩
 ·obtain⟨x,_,rfl⟩:=List.mem_map.1 hr;simp[hlen]
 ·rw[hlen]at hi hk;simp only[wT,Bool.and_eq_true,decide_eq_true_eq,Bool.or_eq_true];rw[ab7 hi hk,ab7 hk hi];have h1:=cB hm (at1 items i).toNat (at1 items k).toNat;refine⟨⟨h1,PV hm _ _⟩,?_⟩;by_cases e:i=k
  ·subst e;right;by_cases hx:(at1 items i).toNat<m.length
   ·simp only[aI,Bool.and_eq_true,List.all_eq_true,List.mem_range]at hm;have:=hm.1.2 _ hx _ hx;simp only[wT,Bool.and_eq_true,decide_eq_true_eq,Bool.or_eq_true]at this;rcases this.2 with h|h
    ·exact absurd rfl h
    ·exact h
   ·simp[at2,List.getD_eq_getElem?_getD,List.getElem?_eq_none (show m.length<=(at1 items i).toNat by omega)]
  ·exact .inl e
theorem sH {items:List Int}{x:Int}(h:0<=place items x):(place items x).toNat<items.length/\at1 items (place items x).toNat=x:=by
 unfold place ix at h|-
 cases hf:items.findIdx? (fun y=>decide (y=x))with
 |none=>rw[hf]at h;simp at h
 |some i=>
  simp only;obtain⟨hi,he,_⟩:=List.findIdx?_eq_some_iff_getElem.1 hf;have h1:=aF hi;rw[List.getElem?_eq_getElem hi]at h1;have:=Option.some.inj h1;exact⟨by omega,by rw[show((i:Int)).toNat=i by omega,←this];simpa using he⟩
theorem au9 {n:Nat}{cs:List Con}{items:List Int}(hc:aK n cs=true)(hs:GK n items)(hl:1<=items.length/\items.length<=8):aK items.length (bZ cs items)=true:=by
 have h1:=fO hc;simp only[aK,Bool.and_eq_true,List.all_eq_true,decide_eq_true_eq];refine⟨⟨fun c hcs=> ?_,by omega⟩,?_⟩
 ·obtain⟨c0,h2,h3⟩:=List.mem_filterMap.1 hcs;unfold pX at h3;split at h3
  ·rename_i hp;obtain rfl:=Option.some.inj h3;obtain⟨a1,a2⟩:=sH hp.1;obtain⟨b1,b2⟩:=sH hp.2;have h4:=h1.2.2.2 c0 h2;simp only[EI,Bool.and_eq_true,decide_eq_true_eq];refine⟨⟨by omega,by omega⟩,?_⟩;rcases Nat.lt_trichotomy (place items c0.a).toNat (place items c0.b).toNat with h|h|h
   ·omega
   ·rw[h]at a2;omega
   ·have:=List.pairwise_iff_getElem.1 hs.2 _ _ b1 a1 h;have e1:=aF a1;have e2:=aF b1;rw[List.getElem?_eq_getElem a1]at e1;rw[List.getElem?_eq_getElem b1]at e2;rw[Option.some.inj e1,Option.some.inj e2]at this;omega
  ·cases h3
 ·have:=List.length_filterMap_le (pX items) cs;unfold bZ;omega
theorem V9 {n:Nat}{cs:List Con}{items:List Int}(hc:aX n cs=true)(hs:GK n items)(hl:1<=items.length/\items.length<=8):aX items.length (bZ cs items)=true:=by
 obtain⟨h1,h2⟩:=dA.1 hc;have h3:=au9 h1 hs hl
 have hat:∀i<items.length,(at1 items i).toNat<n:=fun i hi=>by
  have:=hs.1 _ (List.mem_of_getElem? (aF hi));omega
 refine dA.2 ⟨h3,fun c hcs hsame hr=> ?_⟩
 have key:∀i k,i<items.length->Reach items.length (gM items.length (bZ cs items)) i k->Reach n (gM n cs) (at1 items i).toNat (at1 items k).toNat:=by
  intro i k hi hr
  induction hr with
  |refl=>exact .refl _
  | @step a b _ ha hb h ih=>
   refine .step ih (hat a ha) (hat b hb) ?_;rw[(eT _ (lU h3)).2]at h;obtain⟨c,hc1,hc2,hc3⟩:=h;obtain⟨c0,g1,g2⟩:=List.mem_filterMap.1 hc1;unfold pX at g2;split at g2
   ·rename_i hp;obtain rfl:=Option.some.inj g2;simp only at hc2 hc3;obtain⟨a1,a2⟩:=sH hp.1;obtain⟨b1,b2⟩:=sH hp.2;have hc0:=lU h1 c0 g1;rw[(eT _ (lU h1)).2];refine⟨c0,g1,hc2,?_⟩;rcases hc3 with⟨e1,e2⟩|⟨e1,e2⟩
    ·left;have ea:(place items c0.a).toNat=a:=by omega
     have eb:(place items c0.b).toNat=b:=by omega
     rw[ea]at a2;rw[eb]at b2;omega
    ·right;have ea:(place items c0.a).toNat=b:=by omega
     have eb:(place items c0.b).toNat=a:=by omega
     rw[ea]at a2;rw[eb]at b2;omega
   ·cases g2
 obtain⟨c0,g1,g2⟩:=List.mem_filterMap.1 hcs;unfold pX at g2;split at g2
 ·rename_i hp;obtain rfl:=Option.some.inj g2;simp only at hsame hr;obtain⟨a1,a2⟩:=sH hp.1;obtain⟨b1,b2⟩:=sH hp.2;have:=key _ _ a1 hr;rw[a2,b2]at this;exact h2 c0 g1 hsame this
 ·cases g2
def wW (n:Int)(l:List Int):Bool:=l.all (fun x=>inR x 0 (n-1))&&decide l.Nodup&&inR n 1 8&&decide ((l.length:Int)=n)
def am6 (n:Int)(l:List Int)(i s:Nat):Prop:=(0<i->n<=8)/\s<256/\(∀x∈l.take i,0<=x/\x<n)/\(l.take i).Nodup/\∀x<8,s.testBit x=decide ((x:Int)∈l.take i)
theorem amP (n:Int)(l:List Int):am6 n l 0 0:=⟨by omega,by omega,by simp,by simp,fun x _=>by simp⟩
theorem PE {l:List Int}{i:Nat}(h:i<l.length):l.take (i+1)=l.take i++[at1 l i]:=aW (aF h)
theorem YG {l:List Int}{x:Int}:(l++[x]).Nodup↔l.Nodup/\x∉l:=by
 rw[List.nodup_append];constructor
 ·rintro⟨h1,_,h2⟩;exact⟨h1,fun h=>h2 x h x (by simp) rfl⟩
 ·rintro⟨h1,h2⟩;refine⟨h1,by simp,fun a ha b hb=> ?_⟩;rw[List.mem_singleton.1 hb];rintro rfl;exact h2 ha
theorem VW {n:Int}{l:List Int}{i s:Nat}(h:am6 n l i s)(hi:i<l.length)(hb:(at1 l i<0\/n<=at1 l i)\/8<n\/s.testBit (at1 l i).toNat=true):wW n l=false:=by
 rw[Bool.eq_false_iff];intro ho;simp only[wW,Bool.and_eq_true,List.all_eq_true,decide_eq_true_eq]at ho;obtain⟨⟨⟨h1,h2⟩,h3⟩,h4⟩:=ho;have hx:=h1 _ (List.mem_of_getElem? (aF hi));rcases hb with hb|hb|hb
 ·omega
 ·omega
 ·obtain⟨_,_,_,_,g⟩:=h;rw[g (at1 l i).toNat (by omega),decide_eq_true_eq,show(((at1 l i).toNat:Nat):Int)=at1 l i by omega]at hb;have h5:(l.take (i+1)).Nodup:=List.Nodup.sublist (List.take_sublist _ _) h2;rw[PE hi]at h5;exact(YG.1 h5).2 hb
theorem anK {n:Int}{l:List Int}{i s:Nat}(h:am6 n l i s)(hi:i<l.length)(hx:0<=at1 l i/\at1 l i<n)(hn:n<=8)(hs:s.testBit (at1 l i).toNat=false):am6 n l (i+1) (s|||2^(at1 l i).toNat):=by
 obtain⟨g1,g2,g3,g4,g5⟩:=h;have hpow:2^(at1 l i).toNat<2^8:=Nat.pow_lt_pow_right (by omega) (by omega);refine⟨fun _=>hn,Nat.or_lt_two_pow (n:=8) g2 hpow,fun x hxm=> ?_,?_,fun x hx8=> ?_⟩
 ·rw[PE hi]at hxm;rcases List.mem_append.1 hxm with h|h
  ·exact g3 x h
  ·rw[List.mem_singleton.1 h];exact hx
 ·rw[PE hi,YG];refine⟨g4,fun hm=> ?_⟩;rw[g5 _ (by omega),decide_eq_false_iff_not]at hs;apply hs;rw[show(((at1 l i).toNat:Nat):Int)=at1 l i by omega];exact hm
 ·rw[Nat.testBit_or,Nat.testBit_two_pow,g5 x hx8,PE hi,Bool.eq_iff_iff,Bool.or_eq_true,decide_eq_true_eq,decide_eq_true_eq,decide_eq_true_eq,List.mem_append,List.mem_singleton];refine or_congr_right ⟨fun h=>by omega,fun h=>by omega⟩
theorem aqB {n:Int}{l:List Int}{s:Nat}(h:am6 n l l.length s):wW n l=(inR n 1 8&&decide ((l.length:Int)=n)):=by
 obtain⟨g1,g2,g3,g4,g5⟩:=h;rw[List.take_length]at g3 g4
 have h1:l.all (fun x=>inR x 0 (n-1))=true:=by
  rw[List.all_eq_true];intro x hx;have:=g3 x hx;simp;omega
 have h2:decide l.Nodup=true:=by simpa using g4
 rw[wW,h1,h2,Bool.true_and,Bool.true_and]
def pM (m:List (List Int))(p x:Int)(k:Nat)(l:List Int):List Int:=if at1 l k<0/\((k:Int)=p\/at2 m p.toNat k>0)then l.set k x else l
def pivOne (m:List (List Int))(order:List Int)(i:Nat)(l:List Int):List Int:=if 0<=at1 l (at1 order i).toNat then l else loopN m.length l (pM m (at1 order i) i)
def U4 (m:List (List Int))(order:List Int):List Int:=loopN order.length (List.replicate m.length (-1)) (pivOne m order)
def eF (m:List (List Int))(order:List Int):List Int:=canon (U4 m order)
def rot (n s:Nat):List Int:=(List.range n).map fun i=>(((s+i) % n:Nat):Int)
def o7 (m:List (List Int))(s:Nat)(b:List Int×Int):List Int×Int:=if b.2<0\/aQ m (eF m (rot m.length s))<b.2 then(eF m (rot m.length s),aQ m (eF m (rot m.length s)))else b
def fD (m:List (List Int)):List Int×Int:=loopN m.length ([], -1) (o7 m)
theorem R4:∀(l:List Int) (s:List Int×List Int),(l.foldl dL s).1.length=s.1.length+l.length
 |[],s=>by simp
 |x::l,s=>by
  have h:(dL s x).1.length=s.1.length+1:=by unfold dL;split<;>simp
  rw[List.foldl_cons,R4 l,h,List.length_cons];omega
theorem jI (l:List Int):(canon l).length=l.length:=by simp[canon,R4]
theorem afI (m:List (List Int))(p x:Int)(k:Nat)(l:List Int):(pM m p x k l).length=l.length:=by unfold pM;split<;>simp
theorem qL {n:Nat}{l:List Int}{f:Nat->List Int->List Int}(h:∀k l,(f k l).length=l.length):(loopN n l f).length=l.length:=loopN_inv (fun _ (x:List Int)=>x.length=l.length) rfl fun i x _ hx=>by rw[h,hx]
theorem ajX (m:List (List Int))(o:List Int)(i:Nat)(l:List Int):(pivOne m o i l).length=l.length:=by
 unfold pivOne;split
 ·rfl
 ·exact qL (afI m _ _)
theorem MG (m:List (List Int))(o:List Int):(eF m o).length=m.length:=by
 unfold eF U4;rw[jI,qL (ajX m o)];simp
theorem NJ {n:Nat}{l:List Int}(h:wW n l=true):l.length=n/\1<=n/\n<=8/\l.Nodup/\∀i<l.length,0<=at1 l i/\at1 l i<n:=by
 simp only[wW,Bool.and_eq_true,List.all_eq_true,decide_eq_true_eq]at h;obtain⟨⟨⟨h1,h2⟩,h3⟩,h4⟩:=h;refine⟨by omega,by omega,by omega,h2,fun i hi=> ?_⟩;have:=h1 _ (List.mem_of_getElem? (aF hi));omega
theorem ak9 {n s:Nat}(hn:1<=n/\n<=8)(hs:s<n):wW n (rot n s)=true:=by
 have hb:∀n'≤8,∀s'<n',wW (n':Nat) (rot n' s')=true:=by decide
 exact hb n hn.2 s hs
def rV (l:List Int):Int:=loopN l.length (-1) fun i t=>max t (at1 l i)
def oJ (l:List Int)(x y:Int):Bool:=bJ l&&inR x 0 ((l.length:Int)-1)&&inR y 0 (rV l+1)
def jW (l:List Int)(x y:Int):List Int:=if oJ l x y=true then canon (l.set x.toNat y)else l
def mV (m:List (List Int))(l:List Int):Int:=if aI m=true/\bJ l=true/\l.length=m.length then aQ m l else -1
def z8 (m:List (List Int))(l:List Int)(x y:Int):Int:=if oJ l x y=true/\0<=mV m l then mV m l-mV m (jW l x y)else 0
def keepP (cs:List Con)(l:List Int):Bool:=cs.all (oH l)&&bJ l
def oZ (m:List (List Int))(cs:List Con)(l:List Int)(i k:Nat)(b:Mov):Mov:=if oJ l i k=true/\z8 m l i k>b.gain/\keepP cs (jW l i k)=true then⟨i,k,z8 m l i k⟩else b
def VX (m:List (List Int))(cs:List Con)(l:List Int)(i:Nat)(b:Mov):Mov:=loopN (l.length+1) b (oZ m cs l i)
def adX (m:List (List Int))(cs:List Con)(l:List Int):Bool:=decide (0<=mV m l)&&keepP cs l
def gD (m:List (List Int))(cs:List Con)(l:List Int):Mov:=if adX m cs l=true then loopN l.length ⟨0,0,0⟩ (VX m cs l)else⟨0,0,0⟩
def jV (m:List (List Int))(cs:List Con):Nat->List Int->List Int
 |0,l=>l
 |f+1,l=>if 0<(gD m cs l).gain then jV m cs f (jW l (gD m cs l).item (gD m cs l).block)else l
theorem JC (l:List Int)(x y:Int):(jW l x y).length=l.length:=by unfold jW;split;(rw[jI];simp);rfl
theorem adY {l:List Int}(h:bJ l=true): -1<=rV l/\rV l<=8:=by
 have h1:=isPart_iff.1 h;have key:∀j≤l.length, -1<=loopN j (-1) (fun i t=>max t (at1 l i)):=fun j _=>loopN_inv (fun _ (t:Int)=> -1<=t) (by omega) fun i t _ ht=>by omega
 refine⟨key _ (Nat.le_refl _),?_⟩
 have h2:∀i<l.length,at1 l i<=i:=by
  intro i hi
  induction i using Nat.strongRecOn with
  |_ i ih=>
   rcases Int.lt_or_le (i:Int) (at1 l i)with hlt|hle
   ·-- more smaller labels than places
    exfalso;obtain⟨j,hj,e⟩:=(h1.1 i hi).2 i (by omega) hlt;have:=ih j hj (by omega);omega
   ·exact hle
 refine loopN_inv (n:=l.length) (fun _ (t:Int)=>t<=8) (by omega) fun i t hi ht=> ?_;have:=h2 i hi;omega
theorem rM (m:List (List Int))(l:List Int): -1<=mV m l/\mV m l<=1000000:=by
 unfold mV;split
 ·rename_i h;have h0:=d9 h.1 l;have h8:=isPart_len h.2.1;refine⟨by omega,?_⟩
  have row:∀(i:Nat) (s:Int),i<l.length->pU m l i s<=s+1000*i:=fun i s _=>by
   have:=loopN_inv (n:=i) (s:=s) (f:=fun k s=>s+kV m l i k) (fun k (t:Int)=>t<=s+1000*k) (by omega) (fun k t _ ht=>by
    have:=cB h.1 i k;simp only[kV];split
    ·omega
    ·split<;>omega)
   exact this
  have key:=loopN_inv (n:=l.length) (s:=0) (f:=pU m l) (fun i (s:Int)=>s<=8000*i) (by omega) (fun i s hi hs=>by have:=row i s hi;omega);unfold aQ;omega
 ·omega
theorem ad9 (m:List (List Int))(l:List Int)(x y:Int): -2000000<=z8 m l x y/\z8 m l x y<=2000000:=by
 have h1:=rM m l;have h2:=rM m (jW l x y);unfold z8;split<;>omega
theorem afU (x:Int)(s:List Int)(n:Nat):(lQ x s n<0->∀j<n,at1 s j≠x)/\(0<=lQ x s n->lQ x s n<n/\at1 s (lQ x s n).toNat=x):=by
 induction n with
 |zero=>exact⟨fun _ j hj=>by omega,fun h=>by simp[lQ,loopN_zero]at h⟩
 |succ n ih=>
  have e:lQ x s (n+1)=if at1 s n=x then(n:Int)else lQ x s n:=by rw[lQ,aA];rfl
  rw[e];split
  ·rename_i h;exact⟨fun h2=>by omega,fun _=>⟨by omega,by simpa using h⟩⟩
  ·rename_i h;refine⟨fun h2 j hj=> ?_,fun h2=> ?_⟩
   ·by_cases hjn:j=n
    ·subst hjn;exact h
    ·exact ih.1 h2 j (by omega)
   ·have:=ih.2 h2;exact⟨by omega,this.2⟩
structure aw0 (l:List Int) (i:Nat) (s:List Int×List Int):Prop where
 len:s.1.length=i
 at_:∀j<i,0<=at1 s.1 j/\at1 s.1 j<s.2.length/\at1 s.2 (at1 s.1 j).toNat=at1 l j
 nd:∀a b:Nat,a<s.2.length->b<s.2.length->at1 s.2 a=at1 s.2 b->a=b
 ex:∀v:Int,0<=v->v<s.2.length->∃j<i,at1 s.1 j=v
 rg:RG s.1
theorem aw0.step {l:List Int}{i:Nat}{s:List Int×List Int}(h:aw0 l i s)(hi:i<l.length):aw0 l (i+1) (dL s (at1 l i)):=by
 have hL:=afU (at1 l i) s.2 s.2.length;unfold dL;have hsn:∀(x:Int) (j:Nat),j<i->at1 (s.1++[x]) j=at1 s.1 j:=fun x j hj=>by rw[fH,if_pos (by rw[h.len];exact hj)]
 have hsi:∀x:Int,at1 (s.1++[x]) i=x:=fun x=>by rw[fH,if_neg (by rw[h.len];omega),if_pos h.len.symm]
 split
 ·rename_i hneg;have hno:=hL.1 hneg;have hq:∀j<s.2.length,at1 (s.2++[at1 l i]) j=at1 s.2 j:=fun j hj=>by rw[fH,if_pos hj]
  have hqn:at1 (s.2++[at1 l i]) s.2.length=at1 l i:=by rw[fH,if_neg (by omega),if_pos rfl]
  refine⟨by simp[h.len],fun j hj=> ?_,fun a b ha hb e=> ?_,fun v h1 h2=> ?_,?_⟩
  ·simp only[List.length_append,List.length_singleton];by_cases hji:j=i
   ·subst hji;rw[hsi];exact⟨by omega,by omega,by simpa using hqn⟩
   ·obtain⟨g1,g2,g3⟩:=h.at_ j (by omega);rw[hsn _ j (by omega)];exact⟨g1,by omega,by rw[hq _ (by omega)];exact g3⟩
  ·simp only[List.length_append,List.length_singleton]at ha hb;by_cases ha2:a=s.2.length
   ·by_cases hb2:b=s.2.length
    ·omega
    ·rw[ha2,hqn,hq b (by omega)]at e;exact absurd e.symm (hno b (by omega))
   ·by_cases hb2:b=s.2.length
    ·rw[hb2,hqn,hq a (by omega)]at e;exact absurd e (hno a (by omega))
    ·rw[hq a (by omega),hq b (by omega)]at e;exact h.nd a b (by omega) (by omega) e
  ·simp only[List.length_append,List.length_singleton]at h2;by_cases hv:v=s.2.length
   ·exact⟨i,by omega,by rw[hsi,hv]⟩
   ·obtain⟨j,hj,e⟩:=h.ex v h1 (by omega);exact⟨j,by omega,by rw[hsn _ j hj,e]⟩
  ·have:=OO (nx:=s.2.length) h.rg (fun v h1 h2=>by obtain⟨j,hj,e⟩:=h.ex v h1 h2;exact⟨j,by rw[h.len];exact hj,e⟩) (Nat.le_refl _);exact this
 ·rename_i hneg;obtain⟨hlt,hat⟩:=hL.2 (by omega);refine⟨by simp[h.len],fun j hj=> ?_,h.nd,fun v h1 h2=> ?_,?_⟩
  ·by_cases hji:j=i
   ·subst hji;rw[hsi];exact⟨by omega,hlt,hat⟩
   ·rw[hsn _ j (by omega)];exact h.at_ j (by omega)
  ·obtain⟨j,hj,e⟩:=h.ex v h1 h2;exact⟨j,by omega,by rw[hsn _ j hj,e]⟩
  ·have hn:lQ (at1 l i) s.2 s.2.length=((lQ (at1 l i) s.2 s.2.length).toNat:Int):=by omega
   rw[hn];exact OO (nx:=s.2.length) h.rg (fun v h1 h2=>by obtain⟨j,hj,e⟩:=h.ex v h1 h2;exact⟨j,by rw[h.len];exact hj,e⟩) (by omega)
theorem aC6 (l:List Int):∀i≤l.length,aw0 l i ((l.take i).foldl dL ([],[])):=by
 intro i hi
 induction i with
 |zero=>exact⟨rfl,fun j hj=>by omega,fun a b ha=>by simp at ha,fun v h1 h2=>by simp at h2;omega,ai8⟩
 |succ i ih=>rw[bC dL ([],[]) (aF (by omega))];exact(ih (by omega)).step (by omega)
theorem zV (l:List Int):RG (canon l):=by
 have:=(aC6 l l.length (Nat.le_refl _)).rg
 rwa [List.take_length]at this
theorem aaQ (l:List Int)(i k:Nat)(hi:i<l.length)(hk:k<l.length):at1 (canon l) i=at1 (canon l) k↔at1 l i=at1 l k:=by
 have h:=aC6 l l.length (Nat.le_refl _);rw[List.take_length]at h;have h1:=h.at_ i hi;have h2:=h.at_ k hk;show at1 (l.foldl dL ([],[])).1 i=at1 (l.foldl dL ([],[])).1 k↔_;constructor
 ·intro e;rw[←h1.2.2,←h2.2.2,e]
 ·intro e;rw[←h1.2.2,←h2.2.2]at e;have:=h.nd _ _ (by omega) (by omega) e;omega
theorem agR {a b:List Int}(hl:a.length=b.length)(h:∀i k,i<a.length->k<a.length->(at1 a i=at1 a k↔at1 b i=at1 b k)):canon a=canon b:=by
 have h1:=jI a;have h2:=jI b;refine RG.unique (by omega) (zV a) (zV b) fun i k hi hk=> ?_;rw[aaQ a i k (by omega) (by omega),aaQ b i k (by omega) (by omega)];exact h i k (by omega) (by omega)
theorem arV {l:List Int}(h:RG l):∀i<l.length,at1 l i<=i:=by
 intro i hi
 induction i using Nat.strongRecOn with
 |_ i ih=>
  rcases Int.lt_or_le (i:Int) (at1 l i)with hlt|hle
  ·exfalso;obtain⟨j,hj,e⟩:=(h i hi).2 i (by omega) hlt;have:=ih j hj (by omega);omega
  ·exact hle
def eY (s:List (List Int))(r:List Con):List Int:=if keepP r (fD s).1=true then(fD s).1 else aV s.length r
def partOf (m:List (List Int))(cs:List Con)(items:List Int):List Int:=
 if 6<items.length then jV (dZ m items) (bZ cs items) 100 (eY (dZ m items) (bZ cs items))else(TH (dZ m items) (bZ cs items)).best
def UK (items l:List Int)(i:Int)(k:Nat)(L:List Int):List Int:=L.set (at1 items k).toNat (i*8+at1 l k)
def vY (m:List (List Int))(cs:List Con)(bs:List (List Int))(i:Nat)(L:List Int):List Int:=loopN (gat bs i).length L (UK (gat bs i) (partOf m cs (gat bs i)) i)
def ZV (m:List (List Int))(cs:List Con)(bs:List (List Int)):List Int:=loopN bs.length (List.replicate m.length 0) (vY m cs bs)
def iE (m:List (List Int))(cs:List Con):List Int:=canon (ZV m cs (blocksP (aN m cs)))
def iC (m:List (List Int))(cs:List Con):List Int:=if aX m.length cs=true then iE m cs else[]
theorem aaJ (m:List (List Int))(cs:List Con):∀(f:Nat) (l:List Int),(jV m cs f l).length=l.length
 |0,l=>rfl
 |f+1,l=>by
  rw[jV];split
  ·rw[aaJ m cs f,JC]
  ·rfl
theorem auC {l:List Int}(h:RG l)(x y:Int):RG (jW l x y):=by
 unfold jW;split
 ·exact zV _
 ·exact h
theorem agG (m:List (List Int))(cs:List Con):∀(f:Nat) (l:List Int),RG l->RG (jV m cs f l)
 |0,l,h=>h
 |f+1,l,h=>by
  rw[jV];split
  ·exact agG m cs f _ (auC h _ _)
  ·exact h
theorem KN {m:List (List Int)}(hm:aI m=true):(fD m).1.length=m.length/\RG (fD m).1/\0<=(fD m).2:=by
 have hml:=aP hm
 have key:∀j≤m.length,1<=j->(loopN j ([], -1) (o7 m)).1.length=m.length/\RG (loopN j ([], -1) (o7 m)).1/\0<=(loopN j ([], -1) (o7 m)).2:=by
  intro j hj h1
  induction j with
  |zero=>omega
  |succ j ih=>
   rw[aA];have hp:=d9 hm (eF m (rot m.length j));have hl:=MG m (rot m.length j);unfold o7;split
   ·exact⟨hl,zV _,hp⟩
   ·rename_i h;by_cases hj0:j=0
    ·subst hj0;simp[loopN_zero]at h
    ·exact ih (by omega) (by omega)
 exact key m.length (Nat.le_refl _) hml.1
theorem agM {r:List Con}{l:List Int}(h:bJ l=true):keepP r l=gN r l:=by simp[keepP,gN,h]
theorem LK {s:List (List Int)}{r:List Con}(hs:aI s=true)(hr:aK s.length r=true):(eY s r).length=s.length/\RG (eY s r):=by
 have h1:=KN hs;have h2:=iB hr;unfold eY;split
 ·exact⟨h1.1,h1.2.1⟩
 ·exact⟨h2.1,h2.2.1⟩
structure Part (m:List (List Int)) (cs:List Con) (items:List Int):Prop where
 mat:aI (dZ m items)=true
 len:(dZ m items).length=items.length
 con:aX items.length (bZ cs items)=true
 are:aK items.length (bZ cs items)=true
theorem abQ {m:List (List Int)}{cs:List Con}{items:List Int}(hm:aI m=true)(hc:aX m.length cs=true)(hs:GK m.length items)(h1:1<=items.length)(h8:items.length<=m.length):Part m cs items:=by
 have hml:=aP hm;have h3:=V9 hc hs ⟨h1,by omega⟩;exact⟨amU hm ⟨h1,by omega⟩ hs.2,by simp[dZ],h3,(dA.1 h3).1⟩
theorem aaF {m:List (List Int)}{cs:List Con}{items:List Int}(h:Part m cs items):(partOf m cs items).length=items.length/\RG (partOf m cs items):=by
 unfold partOf;split
 ·have h2:=LK h.mat (r:=bZ cs items) (by rw[h.len];exact h.are);refine⟨by rw[aaJ,h2.1,h.len],agG _ _ _ _ h2.2⟩
 ·rw[MW h.mat (by rw[h.len];exact h.are)];have:=ayK h.mat (cs:=bZ cs items) (by rw[h.len];exact h.con);exact⟨by rw[this.2.2,h.len],this.2.1⟩
theorem G7 (m:List (List Int))(cs:List Con)(bs:List (List Int))(i:Nat)(L:List Int):(vY m cs bs i L).length=L.length:=qL fun k l=>by simp[UK]
theorem RQ (m:List (List Int))(cs:List Con)(bs:List (List Int)):(ZV m cs bs).length=m.length:=by rw[ZV,qL (G7 m cs bs)];simp
theorem ahA {l w:List Int}(n:Nat)(h:∀i<n,kR l w i=true):nX l w n<=1000*l5 w n:=by
 induction n with
 |zero=>simp[nX,l5,loopN]
 |succ n ih=>
  have h1:=ih fun i hi=>h i (by omega);have h2:=h n (by omega);simp only[kR,Bool.and_eq_true,decide_eq_true_eq]at h2;have h3:at1 l n*at1 w n<=1000*at1 w n:=Int.mul_le_mul_of_nonneg_right h2.1.2 h2.2.1;have e1:nX l w (n+1)=nX l w n+at1 l n*at1 w n:=aA _ _ _;have e2:l5 w (n+1)=l5 w n+at1 w n:=aA _ _ _;rw[e1,e2];omega
theorem ac1 (l w:List Int):0<=iT l w/\iT l w<=1000:=by
 unfold iT;split
 ·next h=>
  have h1:∀i<l.length,kR l w i=true:=fun i hi=>List.all_eq_true.1 h.2 i (List.mem_range.2 hi);have a:=sI l.length h1;have b:=sF l.length h1;have c:=ahA l.length h1;split
  ·omega
  ·rename_i hne;rw[Int.tdiv_eq_ediv_of_nonneg a.1];refine⟨Int.ediv_nonneg a.1 b.1,?_⟩;exact Int.ediv_le_of_le_mul (by omega) c
 ·omega
theorem WI (s:Sco)(f:List Int):0<=fP s f/\fP s f<=1000:=by
 unfold fP;split
 ·exact ac1 _ _
 ·omega
theorem TP (rs:List (List Tst))(s:Sco)(f:List Int): -1000<=cO rs s f/\cO rs s f<=1000:=by
 unfold cO;split
 ·next h=>
  have h1:=WI s f;have h2:=h.2.1;simp only[fG,Bool.and_eq_true,inR,decide_eq_true_eq]at h2;have h3:=h2.2;split<;>omega
 ·omega
theorem KH (l:List Rec)(rs:List (List Tst))(s:Sco)(i k:Nat):fF l rs s i k=fF l rs s k i:=by
 unfold fF;rw[Nat.min_comm,Nat.max_comm];by_cases h:i=k
 ·simp[h]
 ·rw[if_neg h,if_neg (Ne.symm h)]
theorem LA (l:List Rec)(rs:List (List Tst))(s:Sco){i k:Nat}(hi:i<l.length)(hk:k<l.length):at2 (weights l rs s) i k=fF l rs s i k:=by
 simp[at2,weights,nT,hi,hk]
theorem zR {l:List Rec}(rs:List (List Tst))(s:Sco)(h:1<=l.length/\l.length<=8):aI (weights l rs s)=true:=by
 have hl:(weights l rs s).length=l.length:=by simp[weights]
 simp only[aI,Bool.and_eq_true,List.all_eq_true,List.mem_range,decide_eq_true_eq,hl];refine⟨⟨fun r hr=> ?_,fun i hi k hk=> ?_⟩,by first|omega|(simp;omega)⟩
 ·simp only[weights,List.mem_map]at hr;obtain⟨i,_,rfl⟩:=hr;simp[nT]
 ·simp only[wT,Bool.and_eq_true,inR,decide_eq_true_eq,Bool.or_eq_true];rw[LA l rs s hi hk,LA l rs s hk hi];refine⟨⟨?_,KH l rs s i k⟩,?_⟩
  ·unfold fF;split
   ·omega
   ·exact TP _ _ _
  ·by_cases h:i=k
   ·right;simp[fF,h]
   ·left;exact h
theorem as0 {l:List Ver}(v:Ver)(h:l.length<=8):(pW l v).length<=8:=by
 unfold pW;split
 ·next h2=>
  simp only[xJ,Bool.and_eq_true,decide_eq_true_eq]at h2;have:=atH l v;simp only[List.length_append,List.length_take,List.length_drop,List.length_cons,List.length_nil];omega
 ·exact h
theorem ajF {α:Type}{P:α->Bool}{l:List α}{c:α}(h:P c=false):ix P (l++[c])=ix P l:=by
 unfold ix;rw[List.findIdx?_append];cases l.findIdx? P<;>simp[h]
theorem aaL (x:Int){s:List Int}(hs:s.Nodup):∀n,n<=s.length->lQ x s n=ix (fun y=>decide (x=y)) (s.take n)
 |0,_=>by simp[lQ,loopN,ix]
 |n+1,h=>by
  have ih:=aaL x hs n (by omega);have e:lQ x s (n+1)=if at1 s n=x then(n:Int)else lQ x s n:=aA _ _ _
  obtain⟨c,hc⟩:=aC (l:=s) (i:=n) (by omega);have hca:at1 s n=c:=by have:=aF (l:=s) (i:=n) (by omega);rw[hc]at this;exact(Option.some.inj this).symm
  rw[e,hca,aW hc];by_cases hx:c=x
  ·rw[if_pos hx];have hl:(s.take n).length=n:=by rw[List.length_take];omega
   have h1:(s.take n++[c])[n]?=some c:=by rw[List.getElem?_append_right (by omega),hl];simp
   have hno:((s.take n++[c]).take n).any (fun y=>decide (x=y))=false:=by
    rw[List.take_append_of_le_length (by simp;omega)];rw[List.any_eq_false];intro y hy;simp only[List.take_take,Nat.min_self]at hy;have hnd:(s.take (n+1)).Nodup:=hs.sublist (List.take_sublist _ _);rw[aW hc,List.nodup_append]at hnd;have:=hnd.2.2 y hy c (by simp);simp;omega
   exact(vH h1 hno (by simp[hx])).symm
  ·rw[if_neg hx,ih,ajF (by simp;omega)]
def PO (m:List (List Int))(i k:Nat):Bool:=inR (at2 m i k) (-1000) 1000&&decide (at2 m k i=at2 m i k)
def vE (m:List (List Int))(i:Nat):Bool:=decide ((gat m i).length=m.length)&&decide (at2 m i i=0)&&(List.range i).all (PO m i)
theorem Q0 (m:List (List Int)):aI m=((List.range m.length).all (vE m)&&inR m.length 1 8):=by
 rw[Bool.eq_iff_iff];simp only[aI,vE,PO,wT,Bool.and_eq_true,List.all_eq_true,List.mem_range,decide_eq_true_eq,Bool.or_eq_true];constructor
 ·rintro⟨⟨h1,h2⟩,h3⟩;refine⟨fun i hi=>⟨⟨?_,?_⟩,fun k hk=> ?_⟩,h3⟩
  ·obtain⟨r,hr⟩:=aC hi;rw[rQ hr];exact h1 r (List.mem_of_getElem? hr)
  ·have:=(h2 i hi i hi).2;simpa using this
  ·have a:=(h2 i hi k (by omega)).1;exact⟨a.1,a.2.symm⟩
 ·rintro⟨h,h3⟩;refine⟨⟨fun r hr=> ?_,fun i hi k hk=> ?_⟩,h3⟩
  ·obtain⟨i,hi⟩:=List.getElem?_of_mem hr;have:=(h i (aS hi)).1.1
   rwa [rQ hi]at this
  ·rcases Nat.lt_trichotomy i k with hlt|rfl|hlt
   ·have a:=(h k hk).2 i hlt;exact⟨⟨by rw[a.2];exact a.1,a.2⟩,.inl (by omega)⟩
   ·have a:=(h i hi).1.2;exact⟨⟨by omega,rfl⟩,.inr a⟩
   ·have a:=(h i hi).2 k hlt;exact⟨⟨a.1,a.2.symm⟩,.inl (by omega)⟩
theorem ad2 {m:List (List Int)}{i k:Nat}(h:k<i)(hp:PO m i k=false):vE m i=false:=by
 unfold vE;rw[gZ h hp,Bool.and_false]
theorem amJ {m:List (List Int)}{i:Nat}(h1:(gat m i).length=m.length)(h2:at2 m i i=0)(h:(List.range i).all (PO m i)=true):vE m i=true:=by
 unfold vE;rw[h];simp[h1,h2]
def zeros (n:Nat):List (List Int):=List.replicate n (List.replicate n 0)
def set2 (m:List (List Int))(i k:Nat)(v:Int):List (List Int):=m.set i ((gat m i).set k v)
def sq2 (n:Nat)(m:List (List Int)):Prop:=m.length=n/\∀r∈m,r.length=n
theorem jD (n:Nat):sq2 n (zeros n):=⟨by simp[zeros],fun r hr=>by obtain⟨_,rfl⟩:=List.mem_replicate.1 hr;simp⟩
theorem kN {n i:Nat}{m:List (List Int)}(h:sq2 n m)(hi:i<n):m[i]?=some (gat m i)/\(gat m i).length=n:=by
 obtain⟨r,hr⟩:=aC (l:=m) (i:=i) (by rw[h.1];exact hi);rw[rQ hr];exact⟨hr,h.2 r (List.mem_of_getElem? hr)⟩
theorem U9 (m:List (List Int))(i k:Nat):at2 m i k=at1 (gat m i) k:=rfl
theorem CR {n i k:Nat}{m:List (List Int)}(h:sq2 n m)(hi:i<n)(hk:k<n):(gat m i)[k]?=some (at2 m i k):=by
 rw[U9];exact aF (by rw[(kN h hi).2];exact hk)
theorem oC {n i k:Nat}{m:List (List Int)}(h:sq2 n m)(hi:i<n)(v:Int):sq2 n (set2 m i k v):=by
 refine⟨by simp[set2,h.1],fun r hr=> ?_⟩;rcases List.mem_or_eq_of_mem_set hr with h1|rfl
 ·exact h.2 r h1
 ·simp[(kN h hi).2]
theorem uW {n i k:Nat}{m:List (List Int)}(h:sq2 n m)(hi:i<n)(hk:k<n)(v:Int)(a b:Nat):at2 (set2 m i k v) a b=if a=i/\b=k then v else at2 m a b:=by
 rw[U9,set2,akX a (by rw[h.1];exact hi)];by_cases ha:i=a
 ·subst ha;rw[if_pos rfl,pQ b (by rw[(kN h hi).2];exact hk),U9];by_cases hb:k=b
  ·subst hb;simp
  ·rw[if_neg hb,if_neg (by omega)]
 ·rw[if_neg ha,if_neg (by omega),U9]
theorem AP (n a b:Nat):at2 (zeros n) a b=0:=by
 by_cases ha:a<n<;>by_cases hb:b<n<;>simp[at2,zeros,List.getD_eq_getElem?_getD,ha,hb]
theorem Z0 {n:Nat}{m:List (List Int)}(h:sq2 n m)(hn:1<=n/\n<=8)(hr:∀a b,a<n->b<n-> -1000<=at2 m a b/\at2 m a b<=1000/\at2 m a b=at2 m b a)(hd:∀a<n,at2 m a a=0):aI m=true:=by
 rw[Q0,h.1];simp only[vE,PO,Bool.and_eq_true,List.all_eq_true,List.mem_range,decide_eq_true_eq];refine⟨fun i hi=>⟨⟨?_,hd i hi⟩,fun k hk=> ?_⟩,by omega⟩
 ·rw[(kN h hi).2,h.1]
 ·have:=hr i k hi (by omega);exact⟨⟨this.1,this.2.1⟩,this.2.2.symm⟩
def jU (m:List (List Int))(c:Con):List (List Int):=if c.same then set2 (set2 m c.a.toNat c.b.toNat 1) c.b.toNat c.a.toNat 1 else m
def GU (n:Nat)(l:List Con):List (List Int):=l.foldl jU (zeros n)
theorem OM {n:Nat}{m:List (List Int)}{c:Con}(h:sq2 n m)(hc:0<=c.a/\c.a<c.b/\c.b<(n:Int)):sq2 n (jU m c):=by
 unfold jU;split
 ·exact oC (oC h (by omega) 1) (by omega) 1
 ·exact h
theorem YP {n:Nat}:∀(cs:List Con) (m:List (List Int)),sq2 n m->(∀c∈cs,0<=c.a/\c.a<c.b/\c.b<(n:Int))->sq2 n (cs.foldl jU m)/\∀a b,at2 (cs.foldl jU m) a b=if(cs.any fun c=>c.same&&(decide (c.a=a/\c.b=b)||decide (c.a=b/\c.b=a)))=true then 1 else at2 m a b
 |[],m,h,_=>⟨h,fun a b=>by simp⟩
 |c::cs,m,h,hc=>by
  have h0:=hc c (by simp);obtain⟨h1,h2⟩:=YP cs (jU m c) (OM h h0) fun d hd=>hc d (by simp[hd]);refine⟨h1,fun a b=> ?_⟩;rw[List.foldl_cons,h2,List.any_cons];by_cases hx:(cs.any fun c=>c.same&&(decide (c.a=a/\c.b=b)||decide (c.a=b/\c.b=a)))=true
  ·rw[if_pos hx,hx,Bool.or_true,if_pos rfl]
  ·have hx2:(cs.any fun c=>c.same&&(decide (c.a=a/\c.b=b)||decide (c.a=b/\c.b=a)))=false:=by simpa using hx
   rw[if_neg hx,hx2,Bool.or_false];unfold jU;cases hs:c.same with
   |false=>simp
   |true=>
    simp only[if_true,Bool.true_and];rw[uW (oC h (by omega) 1) (by omega) (by omega),uW h (by omega) (by omega)];by_cases h3:a=c.b.toNat/\b=c.a.toNat
    ·rw[if_pos h3,if_pos];simp only[Bool.or_eq_true,decide_eq_true_eq];omega
    ·rw[if_neg h3];by_cases h4:a=c.a.toNat/\b=c.b.toNat
     ·rw[if_pos h4,if_pos];simp only[Bool.or_eq_true,decide_eq_true_eq];omega
     ·rw[if_neg h4,if_neg];simp only[Bool.or_eq_true,decide_eq_true_eq];omega
theorem YI {n:Nat}{cs:List Con}(hc:aK n cs=true):sq2 n (GU n cs)/\∀a b,(at2 (GU n cs) a b=0\/at2 (GU n cs) a b=1)/\(0<at2 (GU n cs) a b↔∃c∈cs,DV c a b):=by
 obtain⟨h1,h2⟩:=YP cs (zeros n) (jD n) (lU hc);refine⟨h1,fun a b=> ?_⟩;have h3:=h2 a b;rw[AP]at h3;rw[GU,h3]
 have h4:(cs.any fun c=>c.same&&(decide (c.a=a/\c.b=b)||decide (c.a=b/\c.b=a)))=true↔∃c∈cs,DV c a b:=by
  simp[List.any_eq_true,DV]
 rw[←h4];by_cases h:(cs.any fun c=>c.same&&(decide (c.a=a/\c.b=b)||decide (c.a=b/\c.b=a)))=true
 ·rw[if_pos h];exact⟨.inr rfl,fun _=>h,fun _=>by omega⟩
 ·rw[if_neg h];exact⟨.inl rfl,fun h2=>absurd h2 (by omega),fun h2=>absurd h2 h⟩
theorem SB {n:Nat}{cs:List Con}(hc:aK n cs=true):aI (GU n cs)=true:=by
 obtain⟨h1,h2⟩:=YI hc;have hn:=fO hc
 have hs:∀a b,at2 (GU n cs) a b=at2 (GU n cs) b a:=by
  intro a b;have e1:=(h2 a b).2;have e2:=(h2 b a).2;have e3:(∃c∈cs,DV c a b)↔∃c∈cs,DV c b a:=⟨fun⟨c,h,h'⟩=>⟨c,h,K8 h'⟩,fun⟨c,h,h'⟩=>⟨c,h,K8 h'⟩⟩;rw[e3,←e2]at e1;have:=(h2 a b).1;have:=(h2 b a).1;omega
 refine Z0 h1 (by omega) (fun a b _ _=> ?_) fun a ha=> ?_
 ·have:=(h2 a b).1;exact⟨by omega,by omega,hs a b⟩
 ·have e1:=(h2 a a).2;have e0:=(h2 a a).1;rcases e0 with e0|e0
  ·exact e0
  ·obtain⟨c,hm,_,hl⟩:=e1.1 (by omega);have:=lU hc c hm;omega
theorem ai7 {n:Nat}{cs:List Con}(hc:aK n cs=true):iR (GU n cs)=aV n cs:=
 au6 hc (SB hc) (YI hc).1.1 fun a b _ _=>((YI hc).2 a b).2
def pV (f:Nat->Nat->Bool)(i k:Nat)(m:List (List Int)):List (List Int):=if f i k=true then set2 m i k 1 else m
def P8 (n:Nat)(f:Nat->Nat->Bool)(i:Nat)(m:List (List Int)):List (List Int):=loopN n m (pV f i)
def ones (n:Nat)(f:Nat->Nat->Bool):List (List Int):=loopN n (zeros n) (P8 n f)
theorem V5 {n i k:Nat}{f:Nat->Nat->Bool}{m:List (List Int)}(h:sq2 n m)(hi:i<n):sq2 n (pV f i k m):=by
 unfold pV;split
 ·exact oC h hi 1
 ·exact h
theorem al9 {n i j:Nat}{f:Nat->Nat->Bool}{m:List (List Int)}(h:sq2 n m)(hi:i<n):sq2 n (loopN j m (pV f i)):=loopN_inv (fun _ m=>sq2 n m) h fun k m _ hm=>V5 hm hi
theorem ak1 {n j:Nat}{f:Nat->Nat->Bool}(hj:j<=n):sq2 n (loopN j (zeros n) (P8 n f)):=loopN_inv (fun _ m=>sq2 n m) (jD n) fun i m hi hm=>al9 hm (by omega)
theorem UW {n:Nat}{f:Nat->Nat->Bool}{a b:Nat}:at2 (ones n f) a b=if a<n/\b<n/\f a b=true then 1 else 0:=by
 have h:=loopN_inv (n:=n) (s:=zeros n) (f:=P8 n f) (fun i m=>sq2 n m/\∀a b,at2 m a b=if a<i/\b<n/\f a b=true then 1 else 0) ⟨jD n,fun a b=>by rw[AP,if_neg (by omega)]⟩ fun i m hi ⟨h1,h2⟩=>by
  have h3:=loopN_inv (n:=n) (s:=m) (f:=pV f i) (fun k m'=>sq2 n m'/\∀a b,at2 m' a b=if(a<i/\b<n\/a=i/\b<k)/\f a b=true then 1 else 0) ⟨h1,fun a b=>by rw[h2];split<;>split<;>first|rfl|(exfalso;simp_all;done)|(exfalso;grind)⟩ fun k m' hk ⟨h4,h5⟩=>by
   refine⟨V5 h4 hi,fun a b=> ?_⟩;unfold pV;split
   ·next hf=>
    rw[uW h4 hi hk,h5];by_cases hab:a=i/\b=k
    ·obtain⟨rfl,rfl⟩:=hab;simp[hf]
    ·rw[if_neg hab];split<;>split<;>first|rfl|(exfalso;grind)
   ·next hf=>
    rw[h5];split<;>split<;>first|rfl|(exfalso;grind)
  refine⟨h3.1,fun a b=> ?_⟩;rw[P8,h3.2];split<;>split<;>first|rfl|(exfalso;grind)
 exact h.2 a b
def rU (p q:List Int)(i k:Nat):Bool:=decide (i≠k)&&(decide (at1 p i=at1 p k)||decide (at1 q i=at1 q k))
def F8 (p q:List Int):List (List Int):=ones p.length (rU p q)
theorem RV {p q:List Int}(hp:1<=p.length/\p.length<=8):aI (F8 p q)=true:=by
 refine Z0 (ak1 (Nat.le_refl _)) hp (fun a b ha hb=> ?_) fun a ha=> ?_
 ·have h1:rU p q a b=rU p q b a:=by
   unfold rU;rw[Bool.eq_iff_iff];simp only[Bool.and_eq_true,Bool.or_eq_true,decide_eq_true_eq];constructor<;>(rintro⟨h1,h2⟩;exact⟨by omega,by omega⟩)
  show -1000<=at2 (F8 p q) a b/\at2 (F8 p q) a b<=1000/\at2 (F8 p q) a b=at2 (F8 p q) b a;rw[F8,UW,UW,h1];refine⟨by split<;>omega,by split<;>omega,?_⟩;simp[ha,hb]
 ·show at2 (F8 p q) a a=0;rw[F8,UW,if_neg];simp[rU]
theorem aj5 {p q:List Int}(hp:1<=p.length/\p.length<=8):iR (F8 p q)=uT p q:=by
 refine ap6 (RV hp) (ak1 (Nat.le_refl _)).1 fun a b ha hb hne=> ?_;rw[F8,UW];simp only[rU,ha,hb,true_and,Bool.and_eq_true,Bool.or_eq_true,decide_eq_true_eq];split
 ·next h=>simp[h.2]
 ·next h=>simp;omega
theorem ZX (m:List (List Int))(l:List Int)(i k:Nat):kV m l i k=if at1 l i=at1 l k then max 0 (- at2 m i k)else max 0 (at2 m i k):=by
 unfold kV;split<;>split<;>(try split)<;>omega
theorem WL {a b:List Con}(h:a.Perm b):keepP a=keepP b:=by
 funext l;unfold keepP;rw[h.all_eq]
theorem agJ {m:List (List Int)}{a b:List Con}(h:a.Perm b)(l:List Int):gD m a l=gD m b l:=by
 have h1:=WL h;unfold gD adX VX oZ;rw[h1]
theorem VL {m:List (List Int)}{a b:List Con}(h:a.Perm b):∀(f:Nat) (l:List Int),jV m a f l=jV m b f l
 |0,l=>rfl
 |f+1,l=>by rw[jV,jV,agJ h,VL h f]
theorem abP {s:List (List Int)}{a b:List Con}(h:a.Perm b)(ha:aK s.length a=true):eY s a=eY s b:=by
 unfold eY;rw[WL h,M0 ha (by rw[←rA h];exact ha) fun c=>h.mem_iff]
theorem aeF {m:List (List Int)}{a b:List Con}{items:List Int}(h:a.Perm b)(hp:Part m a items):partOf m a items=partOf m b items:=by
 have hr:=ac7 h items;have ha:aK (dZ m items).length (bZ a items)=true:=by rw[hp.len];exact hp.are
 unfold partOf;rw[abP hr ha,VL hr,MW hp.mat ha,MW hp.mat (by rw[←rA hr];exact ha),af1 hr]
theorem ZC {m:List (List Int)}{a b:List Con}(hm:aI m=true)(h:a.Perm b):iC m a=iC m b:=by
 unfold iC;rw[D8 h];split
 ·next hb=>
  have ha:aX m.length a=true:=by rw[D8 h];exact hb
  have hab:=(dA.1 hb).1
  have hsp:aN m a=aN m b:=by
   unfold aN;rw[rA h];split
   ·rw[M0 (dA.1 ha).1 hab fun c=>h.mem_iff]
   ·rfl
  have hsc:=yU hm hab;unfold iE ZV;rw[hsp];refine congrArg canon (nK fun i L hi=> ?_);have hsel:=JA (isPart_iff.1 hsc.2.1).1 hi;rw[hsc.2.2]at hsel;unfold vY;rw[aeF h (abQ hm ha hsel.1 hsel.2.1 hsel.2.2)]
 ·rfl
def EX (c:UInt8):UInt8:=if nN c=true then c else 32
theorem apP {c:UInt8}{n:Nat}(hn:n<256)(h:c.toNat=n):c=UInt8.ofNat n:=by
 apply UInt8.toNat_inj.1;rw[h,UInt8.toNat_ofNat'];omega
theorem amL (c:UInt8):qW c=if c.toNat=39 then[]else[EX c]:=by
 unfold qW EX;by_cases h9:c.toNat=39
 ·have hw:nN c=false:=by unfold nN;rw[h9];decide
  rw[if_pos h9,if_neg (by rw[hw,h9];simp),if_neg (by omega)]
 ·rw[if_neg h9];by_cases hw:nN c=true
  ·rw[if_pos (.inl hw),if_pos hw]
  ·rw[if_neg hw];by_cases h2:c.toNat=32
   ·rw[if_pos (.inr h2),apP (by omega) h2];rfl
   ·rw[if_neg (by rintro(h|h);exact hw h;exact h2 h),if_pos h9]
theorem asQ (s:Str):(s.filter fun c=> !decide (c=39)).map EX=oI s:=by
 unfold oI
 induction s with
 |nil=>rfl
 |cons c s ih=>
  rw[List.flatMap_cons,←ih,amL,List.filter_cons];by_cases h:c=39
  ·subst h;simp
  ·have:¬c.toNat=39:=fun e=>h (apP (n:=39) (by omega) e);simp[h,this]
def PK (o:Str)(c:UInt8):Str:=if c≠32\/(o≠[]/\o.getLast?≠some 32)then o++[c]else o
def Z6 (o:Str):Str:=if o.getLast?=some 32 then o.dropLast else o
theorem alB (s:Str):∀i≤s.length,(s.take i).foldl PK []=loopN i [] (kC s)++(if loopN i [] (kC s)≠[]/\s.getD (i-1) 0=32 then[32]else[])/\(loopN i [] (kC s)).getLast?≠some 32
 |0,_=>by simp[loopN]
 |i+1,h=>by
  obtain⟨h1,h2⟩:=alB s i (by omega);obtain⟨c,hc⟩:=aC (l:=s) (i:=i) (by omega);rw[bC PK [] hc,aA,Nat.add_sub_cancel,O3 hc];generalize loopN i [] (kC s)=o at h1 h2|-
  rw[h1];have h32:∀x:UInt8,x.toNat=32↔x=32:=fun x=>⟨fun e=>apP (n:=32) (by omega) e,fun e=>by subst e;rfl⟩;unfold kC PK;rw[O3 hc];generalize s.getD (i-1) 0=q;simp only[h32];by_cases hs:c=32
  ·subst hs;rw[if_pos rfl];refine⟨?_,h2⟩;by_cases ho:o=[]
   ·subst ho;simp
   ·by_cases hp:q=32
    ·simp[ho,hp]
    ·simp[ho,hp,h2]
  ·rw[if_neg hs,if_pos (.inl hs)];refine⟨?_,by simp[hs]⟩;have:(0<o.length↔o≠[]):=by rw[List.length_pos_iff]
   simp only[this,hs,and_false,if_false,List.append_nil];split<;>simp
theorem RU (s:Str):uD s=Z6 (s.foldl PK []):=by
 obtain⟨h1,h2⟩:=alB s s.length (Nat.le_refl _);rw[List.take_length]at h1;unfold Z6 uD;rw[h1];generalize loopN s.length [] (kC s)=o at h2|-
 by_cases h:o≠[]/\s.getD (s.length-1) 0=32
 ·rw[if_pos h];simp
 ·rw[if_neg h,List.append_nil,if_neg h2]
def DD (s:Str):List Str:=(VK 32 s).filter fun x=>decide (x≠[])
def kG (s:Str×Int)(c:UInt8):Str×Int:=(if aB c>0/\aB c≠s.2 then s.1++[UInt8.ofNat (48+aB c).toNat]else s.1,if 0<=aB c then aB c else s.2)
theorem aC9 {o:Str}(x:UInt8)(h:o≠[]):(if(o.take 4).length<4 then o.take 4++[x]else o.take 4)=(o++[x]).take 4:=by
 match o with
 |[a]=>rfl
 |[a,b]=>rfl
 |[a,b,c]=>rfl
 |a::b::c::d::t=>simp
theorem alL:∀(s o:Str) (p:Int),o≠[]->s.foldl mO (o.take 4,p)=((s.foldl kG (o,p)).1.take 4,(s.foldl kG (o,p)).2)
 |[],o,p,h=>rfl
 |c::s,o,p,h=>by
  have h4:o.take 4≠[]:=by cases o with
   |nil=>exact absurd rfl h
   |cons a t=>simp
  rw[List.foldl_cons,List.foldl_cons]
  have e:mO (o.take 4,p) c=((kG (o,p) c).1.take 4,(kG (o,p) c).2):=by
   unfold mO kG;rw[if_neg h4];simp only;congr 1;by_cases h1:aB c>0/\aB c≠p
   ·rw[if_pos h1,←aC9 _ h];by_cases h2:(o.take 4).length<4
    ·rw[if_pos ⟨h1.1,h1.2,h2⟩,if_pos h2]
    ·rw[if_neg (fun hh=>h2 hh.2.2),if_neg h2]
   ·rw[if_neg (fun hh=>h1 ⟨hh.1,hh.2.1⟩),if_neg h1]
  have hne:(kG (o,p) c).1≠[]:=by
   unfold kG;simp only;split
   ·simp
   ·exact h
  rw[e];exact alL s _ _ hne
theorem amM {o:Str}(h:o≠[]):UJ (o.take 4)=(o++[48,48,48]).take 4:=by
 match o with
 |[a]=>rfl
 |[a,b]=>rfl
 |[a,b,c]=>rfl
 |a::b::c::d::t=>simp[UJ]
theorem aiU (c:UInt8)(s:Str)(h:(c::s).all (fun c=>decide (aB c≠ -2))=true):dH (c::s)=((s.foldl kG ([cK c],aB c)).1++[48,48,48]).take 4:=by
 unfold dH;rw[if_neg (by rw[h];simp),List.foldl_cons];have e:mO ([],0) c=(([cK c]:Str).take 4,aB c):=by simp[mO]
 rw[e,alL s _ _ (by simp),amM]
 have key:∀(s o:Str) (p:Int),o≠[]->(s.foldl kG (o,p)).1≠[]:=by
  intro s
  induction s with
  |nil=>exact fun o p h=>h
  |cons d s ih=>
   intro o p h;rw[List.foldl_cons];refine ih _ _ ?_;simp only;split
   ·simp
   ·exact h
 exact key s _ _ (by simp)
theorem ai2 {s:Str}(h:s.all (fun c=>decide (aB c≠ -2))=false):dH s=[]:=by
 unfold dH;rw[if_pos (.inr h)]
theorem UB (c:UInt8):aB c=if 97<=(cK c).toNat/\(cK c).toNat<=122 then codeOf (cK c).toNat else -2:=by
 unfold aB;split
 ·rfl
 ·next h=>
  unfold codeOf;repeat(first|rfl|omega|split)
theorem awD (x y:Str)(tr:Bool):∀(s i j:Nat),i+j=s->ed x y tr i j=ed y x tr j i:=by
 intro s
 induction s using Nat.strongRecOn with
 |_ s ih=>
  intro i j h
  match i,j with
  |0,j=>rw[ed_zero,ed_zero']
  |i+1,0=>rw[ed_zero,ed_zero']
  |i+1,j+1=>
   have e1:=ih (i+j) (by omega) i j rfl;have e2:=ih (i+(j+1)) (by omega) i (j+1) rfl;have e3:=ih (i+1+j) (by omega) (i+1) j rfl;have e4:=ih (i-1+(j-1)) (by omega) (i-1) (j-1) rfl
   have hv:edV x y tr i j=edV y x tr j i:=by
    unfold edV;rw[e1,e2,e3];by_cases hc:chr x i=chr y j
    ·rw[if_pos hc,if_pos hc.symm]
    ·rw[if_neg hc,if_neg (fun e=>hc e.symm)];omega
   have hs:mX x y tr (i+1) (j+1)=mX y x tr (j+1) (i+1):=by
    unfold mX;rw[Bool.eq_iff_iff];simp only[Bool.and_eq_true,decide_eq_true_eq,Nat.add_sub_cancel];have e5:i+1-2=i-1:=by omega
    have e6:j+1-2=j-1:=by omega
    rw[e5,e6];constructor
    ·rintro⟨⟨⟨⟨a,b⟩,c⟩,d⟩,e⟩;exact⟨⟨⟨⟨a,c⟩,b⟩,e.symm⟩,d.symm⟩
    ·rintro⟨⟨⟨⟨a,b⟩,c⟩,d⟩,e⟩;exact⟨⟨⟨⟨a,c⟩,b⟩,e.symm⟩,d.symm⟩
   rw[tO,tO,hv,hs,e4]
theorem agA (x y:Str):jR x y=jR y x:=by
 rw[QE,QE,awD x y false _ _ _ rfl];have:xC x y=xC y x:=by unfold xC;rw[Bool.and_comm]
 rw[this]
theorem FM (x y:Str):jJ x y=jJ y x:=by
 have h1:∀a b:Str,nR a b=nR b a:=fun a b=>by unfold nR;rw[agA,Int.max_comm]
 unfold jJ;rw[h1];by_cases h:normal x=[]\/normal y=[]
 ·rw[if_pos h,if_pos h.symm]
 ·rw[if_neg h,if_neg (fun e=>h e.symm)]
theorem uX:∀(a b:List Str),mcount a b=mcount b a
 |[],[]=>rfl
 |[],_::_=>by simp[mcount]
 |_::_,[]=>by simp[mcount]
 |a::x,b::y=>by
  rw[mcount,mcount];rcases wE a b with h|rfl|h
  ·rw[if_pos h,if_neg (by rw[sW h];simp),if_pos h,uX x (b::y)]
  ·rw[if_neg (by rw[dW];simp),if_neg (by rw[dW];simp),if_neg (by rw[dW];simp),if_neg (by rw[dW];simp),uX x y]
  ·rw[if_neg (by rw[sW h];simp),if_pos h,if_pos h,uX (a::x) y]
termination_by a b=>a.length+b.length
theorem KG (a b:List Str):lG a b=lG b a:=by
 have h1:rD a b=rD b a:=by
  rw[KO,KO,uX];have:mY a b=mY b a:=by unfold mY;rw[Bool.and_comm]
  rw[this,Int.add_comm (a.length:Int)]
 unfold lG;rw[h1];by_cases h:a=[]\/b=[]
 ·rw[if_pos h,if_pos h.symm]
 ·rw[if_neg h,if_neg (fun e=>h e.symm)]
theorem E5:∀(a b:Str),shared a b=shared b a
 |[],[]=>rfl
 |[],_::_=>rfl
 |_::_,[]=>rfl
 |a::x,b::y=>by
  rw[shared,shared,E5 x y];by_cases h:a=b
  ·rw[if_pos h,if_pos h.symm]
  ·rw[if_neg h,if_neg (fun e=>h e.symm)]
theorem ahS (x y:Str):kJ x y=kJ y x:=by
 unfold kJ x9;rw[E5 (digits y).reverse];generalize shared (digits x).reverse (digits y).reverse=n;generalize(digits x).length=a;generalize(digits y).length=b;repeat(first|rfl|omega|split)
theorem apE (x y:Str):kY x y=kY y x:=by
 have h1:∀a b:Int,gL a b 10=gL b a 10:=fun a b=>by
  unfold gL;rw[Int.max_comm,Int.min_comm];have e:(inR b 0 9999=true/\inR a 0 9999=true/\inR 10 1 9999=true)↔(inR a 0 9999=true/\inR b 0 9999=true/\inR 10 1 9999=true):=⟨fun h=>⟨h.2.1,h.1,h.2.2⟩,fun h=>⟨h.2.1,h.1,h.2.2⟩⟩;simp only[e]
 unfold kY;rw[h1];by_cases h:0<dE x/\0<dE y
 ·rw[if_pos h,if_pos h.symm]
 ·rw[if_neg h,if_neg (fun e=>h e.symm)]
theorem ajY (a b:Rec):uY a b=uY b a:=by
 unfold uY;rw[FM (fld a 0),KG (tokens (fld a 0)),KG (fQ (fld a 0)),FM (fld a 1),apE,ahS]
theorem leS (x y:Str):decide (x<=y)= !ltL y x:=by
 unfold ltL;rw[Go.Proofs.bytesLess_eq];by_cases h:y<x
 ·have h2:¬x<=y:=by rw[←List.not_lt];simpa using h
  simp[h,h2]
 ·have h2:x<=y:=by rw[←List.not_lt];exact h
  simp[h,h2]
theorem VV {L:List Str}(hs:∀i j (hi:i<j) (hj:j<L.length),ltL (L[j]'hj) (L[i]'(by omega))=false):∀m≤L.length,Asc (Lib.compactUpTo L.toArray m)/\∀z,z∈Lib.compactUpTo L.toArray m↔z∈L.take m
 |0,_=>by simp[Lib.compactUpTo]
 |m+1,h=>by
  obtain⟨h1,h2⟩:=VV hs m (by omega);have hg:∀i (hi:i<L.length),L.toArray[i]! =L[i]:=fun i hi=>by simp[hi]
  have hx:L[m]?=some L[m]:=List.getElem?_eq_getElem (by omega);rw[Lib.compactUpTo_succ,aW hx];by_cases hk:Lib.keeps L.toArray m=true
  ·rw[if_pos hk,hg m (by omega)];refine⟨List.pairwise_append.2 ⟨h1,by simp,fun z hz y hy=> ?_⟩,fun z=>by rw[List.mem_append,h2,List.mem_append]⟩;obtain rfl:y=L[m]:=by simpa using hy
   have hz2:=(h2 z).1 hz;obtain⟨j,hj⟩:=List.getElem?_of_mem hz2;have hjm:j<m:=by have:=aS hj;simp at this;omega
   rw[List.getElem?_take,if_pos hjm,List.getElem?_eq_getElem (by omega)]at hj;obtain rfl:=Option.some.inj hj;simp only[Lib.keeps,decide_eq_true_eq]at hk
   have hne:L[m-1]≠L[m]:=by
    rcases hk with hk|hk
    ·omega
    ·rw[hg m (by omega),hg (m-1) (by omega)]at hk;exact fun e=>hk e.symm
   have hlast:ltL L[m-1] L[m]=true:=by
    rcases wE L[m-1] L[m]with h3|h3|h3
    ·exact h3
    ·exact absurd h3 hne
    ·rw[hs (m-1) m (by omega) (by omega)]at h3;cases h3
   by_cases hj1:j=m-1
   ·subst hj1;exact hlast
   ·rcases wE L[j] L[m-1]with h3|h3|h3
    ·exact qH h3 hlast
    ·rw[h3];exact hlast
    ·rw[hs j (m-1) (by omega) (by omega)]at h3;cases h3
  ·rw[if_neg hk,List.append_nil];refine⟨h1,fun z=> ?_⟩;rw[h2,List.mem_append];simp only[Lib.keeps,decide_eq_true_eq,not_or,Decidable.not_not]at hk;rw[hg m (by omega),hg (m-1) (by omega)]at hk;constructor
   ·exact .inl
   ·rintro(h3|h3)
    ·exact h3
    ·obtain rfl:z=L[m]:=by simpa using h3
     rw[hk.2];exact List.mem_of_getElem? (i:=m-1) (by rw[List.getElem?_take,if_pos (by omega)];exact List.getElem?_eq_getElem _)
def kL (l:List Str):List Str:=l.mergeSort fun x y=>decide (x<=y)
def rO (l:List Str):List Str:=Lib.compact (kL l)
theorem lC (l:List Str):(kL l).length=l.length:=by simp[kL]
theorem SX (l:List Str):Asc (rO l)/\∀z,z∈rO l↔z∈l:=by
 have hp:(kL l).Pairwise fun x y=>decide (x<=y)=true:=by
  refine List.pairwise_mergeSort (fun a b c h1 h2=> ?_) (fun a b=> ?_) l
  ·rw[leS]at h1 h2|-
   simp only[Bool.not_eq_true']at h1 h2|-
   rcases wE a b with h3|h3|h3
   ·cases hca:ltL c a with
    |false=>rfl
    |true=>rw[qH hca h3]at h2;cases h2
   ·rw[h3];exact h2
   ·rw[h3]at h1;cases h1
  ·rw[leS,leS];rcases wE a b with h3|h3|h3
   ·rw[sW h3];rfl
   ·rw[h3,dW];rfl
   ·rw[sW h3];simp
 have hs:∀i j (hi:i<j) (hj:j<(kL l).length),ltL ((kL l)[j]'hj) ((kL l)[i]'(by omega))=false:=fun i j hi hj=>by
  have:=List.pairwise_iff_getElem.1 hp i j (by omega) hj hi;rw[leS]at this;simpa using this
 obtain⟨h1,h2⟩:=VV hs (kL l).length (Nat.le_refl _);refine⟨h1,fun z=> ?_⟩;rw[rO,Lib.compact,h2,List.take_length,kL,List.mem_mergeSort]
theorem aaM {l:List Str}(h:Asc l):kL l=l:=by
 refine List.mergeSort_of_pairwise (h.imp fun{a b} hab=> ?_);rw[leS,sW hab];rfl
theorem XH {l r:List Str}(hr:Asc r)(h:∀z,z∈r↔z∈l):rO l=r:=(SX l).1.unique hr fun z=>by rw[(SX l).2,h]
theorem FD (l:List Str):(rO l).length<=l.length:=by
 have h:∀m≤(kL l).length,(Lib.compactUpTo (kL l).toArray m).length<=m:=by
  intro m hm
  induction m with
  |zero=>simp[Lib.compactUpTo]
  |succ m ih=>
   rw[Lib.compactUpTo_succ,List.length_append];have:=ih (by omega);split<;>simp<;>omega
 exact Nat.le_trans (h (kL l).length (Nat.le_refl _)) (Nat.le_of_eq (lC l))
theorem JY (s:Str):rO (DD (normal s))=tokens s:=XH (LZ s).1 fun z=>by rw[(LZ s).2,DD,List.mem_filter,decide_eq_true_eq]
def afD (l:List Str):List Str:=(l.map dH).filter fun x=>decide (x≠[])
theorem adV (s:Str):rO (afD (tokens s))=fQ s:=XH (J3 s).1 fun z=>by
 rw[(J3 s).2,afD,List.mem_filter,List.mem_map,decide_eq_true_eq];constructor
 ·rintro⟨t,h1,h2,rfl⟩;exact⟨⟨t,h1,rfl⟩,h2⟩
 ·rintro⟨⟨t,h1,rfl⟩,h2⟩;exact⟨t,h1,h2,rfl⟩
theorem LY:∀(a b:Str),shared a b=b.length↔b.isPrefixOf a=true
 |[],[]=>by simp[shared]
 |[],b::y=>by simp[shared,List.isPrefixOf]
 |a::x,[]=>by simp[shared,List.isPrefixOf]
 |a::x,b::y=>by
  have:=LY x y;rw[shared,List.isPrefixOf];by_cases h:a=b
  ·subst h;simp[this]
  ·have h2:(b==a)=false:=by simp;exact fun e=>h e.symm
   rw[if_neg h,h2];simp
theorem aaT:∀(a b:Str),(shared a b=a.length/\shared a b=b.length)↔a=b
 |[],[]=>by simp[shared]
 |[],b::y=>by simp[shared]
 |a::x,[]=>by simp[shared]
 |a::x,b::y=>by
  have:=aaT x y;rw[shared];by_cases h:a=b
  ·subst h;simp[this]
  ·rw[if_neg h];simp[h]
theorem ahR (p q:Str):x9 p q=if p.length<4\/q.length<4\/shared p.reverse q.reverse<4 then 0 else if p=q then 1000 else if shared p.reverse q.reverse>=7\/q.isSuffixOf p=true\/p.isSuffixOf q=true then 800 else 400:=by
 have h1:=aaT p.reverse q.reverse;have h2:=LY p.reverse q.reverse;have h3:=LY q.reverse p.reverse;rw[E5 q.reverse]at h3;simp only[List.length_reverse,List.reverse_inj]at h1 h2 h3;unfold x9 List.isSuffixOf;simp only[←h2,←h3,h1];have e:(shared p.reverse q.reverse>=7\/shared p.reverse q.reverse=p.length\/shared p.reverse q.reverse=q.length)↔(shared p.reverse q.reverse>=7\/shared p.reverse q.reverse=q.length\/shared p.reverse q.reverse=p.length):=by omega
 simp only[e]
def SI (E:Int->Int->Prop)(v:Ver):Int->Int->Prop:=fun x y=>E x y\/(E x v.a/\E y v.b)\/(E x v.b/\E y v.a)
def jQ (m n:Int)(z:Int):Int:=if z=max m n then min m n else z
def l9 (o:List Int)(v:Ver):List Int:=if v.same then o.map (jQ (at1 o v.a.toNat) (at1 o v.b.toNat))else o
def rC:List Int:=(List.range 400).map fun(i:Nat)=>(i:Int)
def dX (l:List Ver):List Int:=l.foldl l9 rC
def inT (x:Int):Prop:=0<=x/\x<400
structure HY (E:Int->Int->Prop) (o:List Int):Prop where
 len:o.length=400
 rng:∀i<400,0<=at1 o i/\at1 o i<400
 eq:∀x y,inT x->inT y->(at1 o x.toNat=at1 o y.toNat↔E x y)
theorem XY {o:List Int}{f:Int->Int}{i:Nat}(h:i<o.length):at1 (o.map f) i=f (at1 o i):=by
 have:=aF h;simp only[at1,List.getD_eq_getElem?_getD,List.getElem?_map];rw[List.getElem?_eq_getElem h];rfl
theorem HY.step {E:Int->Int->Prop}{o:List Int}(h:HY E o){v:Ver}(ha:inT v.a)(hb:inT v.b)(hs:v.same=true):HY (SI E v) (l9 o v):=by
 have hst:l9 o v=o.map (jQ (at1 o v.a.toNat) (at1 o v.b.toNat)):=if_pos hs;have r1:=h.rng v.a.toNat (by unfold inT at ha;omega);have r2:=h.rng v.b.toNat (by unfold inT at hb;omega);rw[hst];refine⟨by rw[List.length_map];exact h.len,fun i hi=> ?_,fun x y hx hy=> ?_⟩
 ·rw[XY (by rw[h.len];exact hi)];have:=h.rng i hi;unfold jQ;split<;>omega
 ·unfold SI;rw[XY (by rw[h.len];unfold inT at hx;omega),XY (by rw[h.len];unfold inT at hy;omega),←h.eq x y hx hy,←h.eq x v.a hx ha,←h.eq y v.b hy hb,←h.eq x v.b hx hb,←h.eq y v.a hy ha];generalize at1 o x.toNat=X;generalize at1 o y.toNat=Y;generalize at1 o v.a.toNat=A;generalize at1 o v.b.toNat=B;unfold jQ;split<;>split<;>omega
theorem HY.fold:∀(l:List Ver) {E:Int->Int->Prop}{o:List Int},HY E o->(∀v∈l,inT v.a/\inT v.b)->HY ((l.filter fun v=>v.same).foldl SI E) (l.foldl l9 o)
 |[],_,_,h,_=>h
 |v::l,E,o,h,hv=>by
  have h1:=hv v (by simp);have h2:=fun w hw=>hv w (List.mem_cons_of_mem v hw);rw[List.foldl_cons,List.filter_cons];cases hs:v.same with
  |true=>rw[if_pos rfl,List.foldl_cons];exact HY.fold l (h.step h1.1 h1.2 hs) h2
  |false=>
   rw[if_neg (by simp)];have:l9 o v=o:=if_neg (by simp[hs]);rw[this];exact HY.fold l h h2
theorem avR:HY (fun x y=>x=y) rC:=by
 have h0:∀i<400,at1 rC i=i:=fun i hi=>by simp[at1,rC,List.getD_eq_getElem?_getD,hi]
 refine⟨by simp[rC],fun i hi=>by rw[h0 i hi];omega,fun x y hx hy=> ?_⟩;unfold inT at hx hy;rw[h0 _ (by omega),h0 _ (by omega)];omega
theorem axP {l:List Ver}(hv:∀v∈l,inT v.a/\inT v.b):HY ((l8 l).foldl SI fun x y=>x=y) (dX l):=HY.fold l avR hv
abbrev Dj (g:List (List Int)):Prop:=g.Pairwise fun r r'=>∀u∈r,u∉r'
def asX (g:List (List Int))(x y:Int):Prop:=∃r∈g,x∈r/\y∈r
def eqG (g:List (List Int))(x y:Int):Prop:=x=y\/asX g x y
theorem abL {x:Int}{r:List Int}:grp x r=true↔x∈r:=by simp[grp]
theorem nG {g:List (List Int)}{x:Int}(h:0<=bB g x):g[(bB g x).toNat]?=some (gat g (bB g x).toNat)/\x∈gat g (bB g x).toNat:=by
 unfold bB ix at h|-
 cases hf:g.findIdx? (grp x)with
 |none=>rw[hf]at h;simp at h
 |some i=>
  obtain⟨h1,h2,_⟩:=List.findIdx?_eq_some_iff_getElem.1 hf;simp only[Int.toNat_natCast];have h3:g[i]?=some g[i]:=List.getElem?_eq_getElem h1;rw[rQ h3];exact⟨h3,abL.1 h2⟩
theorem KW {g:List (List Int)}{x:Int}(h:¬0<=bB g x){r:List Int}(hr:r∈g):x∉r:=fun hx=>h (eH.2 (List.any_eq_true.2 ⟨r,hr,abL.2 hx⟩))
theorem Dj.uniq {g:List (List Int)}(h:Dj g){i j:Nat}{r r':List Int}{u:Int}(hi:g[i]?=some r)(hj:g[j]?=some r')(hu:u∈r)(hu':u∈r'):i=j:=by
 have l1:=aS hi;have l2:=aS hj;rw[List.getElem?_eq_getElem l1]at hi;rw[List.getElem?_eq_getElem l2]at hj;obtain rfl:=Option.some.inj hi;obtain rfl:=Option.some.inj hj;have hp:=List.pairwise_iff_getElem.1 h;rcases Nat.lt_trichotomy i j with h1|h1|h1
 ·exact absurd hu' (hp i j l1 l2 h1 u hu)
 ·exact h1
 ·exact absurd hu (hp j i l2 l1 h1 u hu')
theorem Dj.one {g:List (List Int)}(h:Dj g){r r':List Int}{u:Int}(hr:r∈g)(hr':r'∈g)(hu:u∈r)(hu':u∈r'):r=r':=by
 obtain⟨i,hi⟩:=List.getElem?_of_mem hr;obtain⟨j,hj⟩:=List.getElem?_of_mem hr';obtain rfl:=h.uniq hi hj hu hu';rw[hi]at hj;exact Option.some.inj hj
theorem afK {g:List (List Int)}(h:Dj g){i:Nat}{r:List Int}{x:Int}(hi:g[i]?=some r)(hx:x∈r):bB g x=i:=by
 have h0:0<=bB g x:=eH.2 (List.any_eq_true.2 ⟨r,List.mem_of_getElem? hi,abL.2 hx⟩);obtain⟨h1,h2⟩:=nG h0;have:=h.uniq h1 hi h2 hx;omega
theorem same_iff {g:List (List Int)}(h:Dj g){x y:Int}:(0<=bB g x/\bB g x=bB g y)↔asX g x y:=by
 constructor
 ·rintro⟨h1,h2⟩;obtain⟨a1,a2⟩:=nG h1;obtain⟨b1,b2⟩:=nG (h2▸h1);rw[h2]at a1 a2;exact⟨_,List.mem_of_getElem? b1,a2,b2⟩
 ·rintro⟨r,hr,hx,hy⟩;obtain⟨i,hi⟩:=List.getElem?_of_mem hr;rw[afK h hi hx,afK h hi hy];omega
theorem WK {g:List (List Int)}{x y:Int}(h:eqG g x y):eqG g y x:=by
 rcases h with h|⟨r,hr,h1,h2⟩
 ·exact .inl h.symm
 ·exact .inr ⟨r,hr,h2,h1⟩
theorem sO {g:List (List Int)}(hd:Dj g){x y z:Int}(h:eqG g x y)(h':eqG g y z):eqG g x z:=by
 rcases h with rfl|⟨r,hr,h1,h2⟩
 ·exact h'
 ·rcases h' with rfl|⟨r',hr',h3,h4⟩
  ·exact .inr ⟨r,hr,h1,h2⟩
  ·obtain rfl:=hd.one hr hr' h2 h3;exact .inr ⟨r,hr,h1,h4⟩
theorem TA (g:List (List Int))(a b:Int):pF g a b=((List.range g.length).filter fun(i:Nat)=>decide ((i:Int)≠a/\(i:Int)≠b)).map (gat g):=by
 have h:∀n,loopN n [] (fun(i:Nat) o=>if(i:Int)≠a/\(i:Int)≠b then o++[gat g i]else o)=((List.range n).filter fun(i:Nat)=>decide ((i:Int)≠a/\(i:Int)≠b)).map (gat g):=by
  intro n
  induction n with
  |zero=>rfl
  |succ n ih=>
   rw[aA,ih,List.range_succ,List.filter_append,List.map_append];by_cases hc:(n:Int)≠a/\(n:Int)≠b
   ·rw[if_pos hc];simp[hc]
   ·rw[if_neg hc];simp only[not_and,Decidable.not_not]at hc;simp;exact hc
 exact h g.length
theorem VN {g:List (List Int)}{a b:Int}{r:List Int}:r∈pF g a b↔∃i:Nat,g[i]?=some r/\(i:Int)≠a/\(i:Int)≠b:=by
 rw[TA,List.mem_map];constructor
 ·rintro⟨i,hi,rfl⟩;rw[List.mem_filter,List.mem_range,decide_eq_true_eq]at hi;obtain⟨c,hc⟩:=aC hi.1;exact⟨i,by rw[rQ hc];exact hc,hi.2⟩
 ·rintro⟨i,hi,h⟩;exact⟨i,by rw[List.mem_filter,List.mem_range,decide_eq_true_eq];exact⟨aS hi,h⟩,rQ hi⟩
theorem aw8 {g:List (List Int)}(h:Dj g)(a b:Int):Dj (pF g a b):=by
 rw[TA];refine List.pairwise_map.2 ((List.pairwise_lt_range.filter _).imp_of_mem fun{i j} hi hj hlt u hu hu'=> ?_);rw[List.mem_filter,List.mem_range]at hi hj;obtain⟨c,hc⟩:=aC hi.1;obtain⟨d,hd⟩:=aC hj.1;rw[rQ hc]at hu;rw[rQ hd]at hu';have:=h.uniq hc hd hu hu';omega
def XA (g:List (List Int))(x:Int):List Int:=if 0<=bB g x then gat g (bB g x).toNat else[x]
theorem GY {g:List (List Int)}(h:Dj g){x u:Int}:u∈XA g x↔eqG g u x:=by
 unfold XA;split
 ·next h0=>
  obtain⟨h1,h2⟩:=nG h0;constructor
  ·exact fun hu=> .inr ⟨_,List.mem_of_getElem? h1,hu,h2⟩
  ·rintro(rfl|⟨r,hr,hu,hx⟩)
   ·exact h2
   ·rw[←h.one hr (List.mem_of_getElem? h1) hx h2];exact hu
 ·next h0=>
  constructor
  ·intro hu;exact .inl (by simpa using hu)
  ·rintro(rfl|⟨r,hr,hu,hx⟩)
   ·simp
   ·exact absurd hx (KW h0 hr)
theorem auJ (g:List (List Int))(x y:Int):jB g x y=pF g (bB g x) (bB g y)++[if 0<=bB g x/\bB g x=bB g y then XA g x else XA g x++XA g y]:=by
 unfold jB XA;split
 ·next h=>rw[if_pos h.1]
 ·rfl
theorem ap9 {g:List (List Int)}(h:Dj g)(v:Ver):Dj (jB g v.a v.b)/\∀u w,eqG (jB g v.a v.b) u w↔SI (eqG g) v u w:=by
 obtain⟨M,hM⟩:∃M,M=if 0<=bB g v.a/\bB g v.a=bB g v.b then XA g v.a else XA g v.a++XA g v.b:=⟨_,rfl⟩
 have hj:=auJ g v.a v.b;rw[←hM]at hj
 have hin:∀u,u∈M↔eqG g u v.a\/eqG g u v.b:=by
  intro u;rw[hM];split
  ·next hs=>
   rw[GY h];exact⟨.inl,fun hh=>hh.elim id fun h2=>sO h h2 (WK (.inr ((same_iff h).1 hs)))⟩
  ·rw[List.mem_append,GY h,GY h]
 have hrest:∀(i:Nat) (r:List Int),g[i]?=some r->(((i:Int)≠bB g v.a/\(i:Int)≠bB g v.b)↔∀u∈r,u∉M)\/r=[]:=by
  intro i r hi;by_cases hr:r=[]
  ·exact .inr hr
  ·left;constructor
   ·rintro⟨h1,h2⟩ u hu hm;rcases(hin u).1 hm with h3|h3
    ·have:=(GY h).2 h3;unfold XA at this;split at this
     ·next h0=>obtain⟨k1,_⟩:=nG h0;have:=h.uniq hi k1 hu this;omega
     ·next h0=>obtain rfl:u=v.a:=by simpa using this
               exact KW h0 (List.mem_of_getElem? hi) hu
    ·have:=(GY h).2 h3;unfold XA at this;split at this
     ·next h0=>obtain⟨k1,_⟩:=nG h0;have:=h.uniq hi k1 hu this;omega
     ·next h0=>obtain rfl:u=v.b:=by simpa using this
               exact KW h0 (List.mem_of_getElem? hi) hu
   ·intro hall;constructor
    ·intro e;have h0:0<=bB g v.a:=by omega
     obtain⟨k1,k2⟩:=nG h0;rw[←e,Int.toNat_natCast,hi]at k1;rw[←e,Int.toNat_natCast,←Option.some.inj k1]at k2;exact hall _ k2 ((hin _).2 (.inl (.inl rfl)))
    ·intro e;have h0:0<=bB g v.b:=by omega
     obtain⟨k1,k2⟩:=nG h0;rw[←e,Int.toNat_natCast,hi]at k1;rw[←e,Int.toNat_natCast,←Option.some.inj k1]at k2;exact hall _ k2 ((hin _).2 (.inr (.inl rfl)))
 have hdis:∀r∈pF g (bB g v.a) (bB g v.b),∀u∈r,u∉M:=by
  intro r hr u hu;obtain⟨i,hi,h1⟩:=VN.1 hr;rcases hrest i r hi with h2|rfl
  ·exact h2.1 h1 u hu
  ·simp at hu
 refine⟨?_,fun u w=> ?_⟩
 ·rw[hj];refine List.pairwise_append.2 ⟨aw8 h _ _,by simp,fun r hr m hm=> ?_⟩;obtain rfl:m=M:=by simpa using hm
  exact hdis r hr
 ·constructor
  ·rintro(rfl|⟨r,hr,hu,hw⟩)
   ·exact .inl (.inl rfl)
   ·rw[hj,List.mem_append]at hr;rcases hr with hr|hr
    ·obtain⟨i,hi,_⟩:=VN.1 hr;exact .inl (.inr ⟨r,List.mem_of_getElem? hi,hu,hw⟩)
    ·obtain rfl:r=M:=by simpa using hr
     rcases(hin u).1 hu with h1|h1<;>rcases(hin w).1 hw with h2|h2
     ·exact .inl (sO h h1 (WK h2))
     ·exact .inr (.inl ⟨h1,h2⟩)
     ·exact .inr (.inr ⟨h1,h2⟩)
     ·exact .inl (sO h h1 (WK h2))
  ·have hm:∀{u w},u∈M->w∈M->eqG (jB g v.a v.b) u w:=fun hu hw=> .inr ⟨M,by rw[hj];simp,hu,hw⟩;rintro(h1|⟨h1,h2⟩|⟨h1,h2⟩)
   ·rcases h1 with rfl|⟨r,hr,hu,hw⟩
    ·exact .inl rfl
    ·by_cases hx:u∈M
     ·refine hm hx ((hin w).2 ?_);have hwu:eqG g w u:= .inr ⟨r,hr,hw,hu⟩;exact((hin u).1 hx).imp (sO h hwu) (sO h hwu)
     ·obtain⟨i,hi⟩:=List.getElem?_of_mem hr;rcases hrest i r hi with h2|rfl
      ·refine .inr ⟨r,?_,hu,hw⟩;rw[hj,List.mem_append];refine .inl (VN.2 ⟨i,hi,h2.2 fun z hz hzM=>hx ((hin u).2 ?_)⟩);have huz:eqG g u z:= .inr ⟨r,hr,hu,hz⟩;exact((hin z).1 hzM).imp (sO h huz) (sO h huz)
      ·simp at hu
   ·exact hm ((hin u).2 (.inl h1)) ((hin w).2 (.inr h2))
   ·exact hm ((hin u).2 (.inr h1)) ((hin w).2 (.inl h2))
def pJ (l:List Ver):List (List Int):=l.foldl (fun g v=>jB g v.a v.b) []
theorem NN:∀(l:List Ver) {g:List (List Int)}{E:Int->Int->Prop},Dj g->(∀u w,eqG g u w↔E u w)->Dj (l.foldl (fun g v=>jB g v.a v.b) g)/\∀u w,eqG (l.foldl (fun g v=>jB g v.a v.b) g) u w↔l.foldl SI E u w
 |[],_,_,h,he=>⟨h,he⟩
 |v::l,g,E,h,he=>by
  obtain⟨h1,h2⟩:=ap9 h v;refine NN l h1 fun u w=> ?_;rw[h2];unfold SI;simp only[he]
theorem V7 (l:List Ver):Dj (pJ l)/\∀u w,eqG (pJ l) u w↔l.foldl SI (fun x y=>x=y) u w:=NN l (by simp) fun u w=>by simp[eqG,asX]
theorem ag0 {l ms:List Ver}(hv:∀v∈l,inT v.a/\inT v.b)(hm:l8 l=ms){x y:Int}(hx:inT x)(hy:inT y)(hne:x≠y):at1 (dX l) x.toNat=at1 (dX l) y.toNat↔(0<=bB (pJ ms) x/\bB (pJ ms) x=bB (pJ ms) y):=by
 rw[(axP hv).eq x y hx hy,hm,←(V7 ms).2,same_iff (V7 ms).1];exact⟨fun h=>h.resolve_left hne,.inr⟩
theorem IV {x y:Int}(h:x<y):oM x y= -1:=if_pos h
theorem IJ {x y:Int}(h:y<x):oM x y=1:=by unfold oM;rw[if_neg (by omega),if_pos h]
theorem nV (x:Int):oM x x=0:=by unfold oM;rw[if_neg (by omega),if_neg (by omega)]
theorem JD (u w:Ver):bQ u w<=0↔(u.a<w.a\/u.a=w.a/\(u.b<w.b\/u.b=w.b/\(u.time<w.time\/u.time=w.time/\(u.same=true->w.same=true)))):=by
 unfold bQ;rcases Int.lt_trichotomy u.a w.a with h1|h1|h1
 ·rw[IV h1];simp[h1]
 ·rw[h1,nV];rcases Int.lt_trichotomy u.b w.b with h2|h2|h2
  ·rw[IV h2];simp[h2]
  ·rw[h2,nV];rcases Int.lt_trichotomy u.time w.time with h3|h3|h3
   ·rw[IV h3];simp[h3]
   ·rw[h3,nV];cases u.same<;>cases w.same<;>simp
   ·rw[IJ h3];simp;omega
  ·rw[IJ h2];simp;omega
 ·rw[IJ h1];simp;omega
theorem FW (u w:Ver):bQ u w<0↔¬bQ w u<=0:=by
 rw[JD];have h:=JD u w
 have h0:bQ u w=0->u=w:=by
  unfold bQ;rcases Int.lt_trichotomy u.a w.a with h1|h1|h1
  ·rw[IV h1];simp
  ·rw[h1,nV];rcases Int.lt_trichotomy u.b w.b with h2|h2|h2
   ·rw[IV h2];simp
   ·rw[h2,nV];rcases Int.lt_trichotomy u.time w.time with h3|h3|h3
    ·rw[IV h3];simp
    ·rw[h3,nV];intro h4
     have h5:u.same=w.same:=by
      cases hu:u.same<;>cases hw:w.same<;>simp[hu,hw]at h4|-
     cases u;cases w;simp_all
    ·rw[IJ h3];simp
   ·rw[IJ h2];simp
  ·rw[IJ h1];simp
 constructor
 ·intro hlt hle;have h1:=h.1 (by omega)
  have:u.same=w.same:=by
   have e1:u.a=w.a:=by omega
   have e2:u.b=w.b:=by omega
   have e3:u.time=w.time:=by omega
   have a1:u.same=true->w.same=true:=by
    rcases h1 with h1|⟨_,h1|⟨_,h1|⟨_,h1⟩⟩⟩
    ·omega
    ·omega
    ·omega
    ·exact h1
   have a2:w.same=true->u.same=true:=by
    rcases hle with h1|⟨_,h1|⟨_,h1|⟨_,h1⟩⟩⟩
    ·omega
    ·omega
    ·omega
    ·exact h1
   cases hu:u.same<;>cases hw:w.same<;>simp_all
  have e1:u.a=w.a:=by omega
  have e2:u.b=w.b:=by omega
  have e3:u.time=w.time:=by omega
  have:bQ u w=0:=by
   unfold bQ;rw[e1,e2,e3,this,nV,nV,nV];simp
  omega
 ·intro hn
  have hle:bQ u w<=0:=by
   rw[h];rcases Int.lt_trichotomy u.a w.a with h1|h1|h1
   ·exact .inl h1
   ·refine .inr ⟨h1,?_⟩;rcases Int.lt_trichotomy u.b w.b with h2|h2|h2
    ·exact .inl h2
    ·refine .inr ⟨h2,?_⟩;rcases Int.lt_trichotomy u.time w.time with h3|h3|h3
     ·exact .inl h3
     ·refine .inr ⟨h3,fun hu=> ?_⟩;cases hw:w.same with
      |true=>rfl
      |false=>exact absurd (.inr ⟨h1.symm,.inr ⟨h2.symm,.inr ⟨h3.symm,fun e=>by rw[hw]at e;cases e⟩⟩⟩) hn
     ·exact absurd (.inr ⟨h1.symm,.inr ⟨h2.symm,.inl h3⟩⟩) hn
    ·exact absurd (.inr ⟨h1.symm,.inl h2⟩) hn
   ·exact absurd (.inl h1) hn
  have:bQ u w≠0:=by
   intro e;have:=h0 e;subst this;exact hn (.inr ⟨rfl,.inr ⟨rfl,.inr ⟨rfl,id⟩⟩⟩)
  omega
theorem YJ {u v w:Ver}(h1:bQ u v<=0)(h2:bQ v w<=0):bQ u w<=0:=by
 rw[JD]at*
 rcases h1 with h1|⟨h1,h1'|⟨h1',h1''|⟨h1'',h1s⟩⟩⟩<;>rcases h2 with h2|⟨h2,h2'|⟨h2',h2''|⟨h2'',h2s⟩⟩⟩
 all_goals first
  |(left;omega)
  |(right;refine⟨by omega,?_⟩;left;omega)
  |(right;refine⟨by omega,?_⟩;right;refine⟨by omega,?_⟩;left;omega)
  |(right;refine⟨by omega,?_⟩;right;refine⟨by omega,?_⟩;right;exact⟨by omega,fun e=>h2s (h1s e)⟩)
theorem abB {u w:Ver}(h1:bQ u w<=0)(h2:bQ w u<=0):u=w:=by
 have h3:=(JD u w).1 h1;have h4:=(JD w u).1 h2;have e1:u.a=w.a:=by omega
 have e2:u.b=w.b:=by omega
 have e3:u.time=w.time:=by omega
 have e4:u.same=w.same:=by
  have a1:u.same=true->w.same=true:=by
   rcases h3 with h1|⟨_,h1|⟨_,h1|⟨_,h1⟩⟩⟩<;>first|omega|exact h1
  have a2:w.same=true->u.same=true:=by
   rcases h4 with h1|⟨_,h1|⟨_,h1|⟨_,h1⟩⟩⟩<;>first|omega|exact h1
  cases hu:u.same<;>cases hw:w.same<;>simp_all
 cases u;cases w;simp_all
theorem acW {α:Type}(p:α->Bool)(l:List α)(v:α):(eU p l v).Perm (v::l):=by
 unfold eU;rw[List.append_assoc,List.singleton_append];refine List.perm_middle.trans ?_;rw[List.take_append_drop]
theorem wB {α:Type}(p:α->α->Bool):∀(l t:List α),(l.foldl (fun out v=>eU (p v) out v) t).Perm (t++l)
 |[],t=>by simp
 |x::l,t=>by
  rw[List.foldl_cons];refine(wB p l _).trans ?_;refine((acW (p x) t x).append_right l).trans ?_;rw[List.cons_append];exact List.perm_middle.symm
theorem vV (l:List Ver):(bW l).Perm l:=by have:=wB kQ l [];rwa [List.nil_append]at this
theorem yE (l:List Ver):(lM l).Perm l:=by have:=wB sN l [];rwa [List.nil_append]at this
abbrev CZ (l:List Ver):Prop:=l.Pairwise fun a b=>bQ a b<=0
theorem ajU {α:Type}(p:α->Bool)(l:List α):(∀x∈l.drop (l.length-xQ p l),p x=true)/\∀c,(l.take (l.length-xQ p l)).getLast?=some c->p c=false:=by
 have hb:=ag3 p l
 have h1:l.drop (l.length-xQ p l)=(l.reverse.takeWhile p).reverse:=by
  have:l.reverse.take (xQ p l)=l.reverse.takeWhile p:=by
   have hp:=List.takeWhile_prefix (p:=p) (l:=l.reverse);unfold xQ;exact(List.prefix_iff_eq_take.1 hp).symm
  rw[←this,List.reverse_take];simp
 have h2:l.take (l.length-xQ p l)=(l.reverse.dropWhile p).reverse:=by
  have h3:l=(l.reverse.dropWhile p).reverse++(l.reverse.takeWhile p).reverse:=by
   rw[←List.reverse_append,List.takeWhile_append_dropWhile,List.reverse_reverse]
  have h4:=List.take_append_drop (l.length-xQ p l) l;rw[h1]at h4;exact List.append_cancel_right (h4.trans h3)
 refine⟨fun x hx=> ?_,fun c hc=> ?_⟩
 ·rw[h1,List.mem_reverse]at hx;exact List.all_eq_true.1 List.all_takeWhile x hx
 ·rw[h2,List.getLast?_reverse]at hc;have:=List.head?_dropWhile_not p l.reverse;rw[hc]at this;simpa using this
theorem WF {l:List Ver}(h:CZ l)(v:Ver):CZ (eU (kQ v) l v):=by
 obtain⟨h1,h2⟩:=ajU (kQ v) l;unfold eU;generalize l.length-xQ (kQ v) l=k at h1 h2|-
 have hl:∀x∈l.take k,bQ x v<=0:=by
  intro x hx
  obtain⟨c,hc⟩:∃c,(l.take k).getLast?=some c:=by
   cases hg:(l.take k).getLast? with
   |some c=>exact⟨c,rfl⟩
   |none=>rw[List.getLast?_eq_none_iff]at hg;rw[hg]at hx;cases hx
  have h3:=h2 c hc;simp only[kQ,decide_eq_false_iff_not]at h3;obtain⟨t,ht⟩:=List.getLast?_eq_some_iff.1 hc;have hs:CZ (l.take k):=h.sublist (List.take_sublist _ _);rw[ht]at hx hs;rcases List.mem_append.1 hx with hx|hx
  ·exact YJ ((List.pairwise_append.1 hs).2.2 x hx c (by simp)) (by omega)
  ·obtain rfl:x=c:=by simpa using hx
   omega
 have hr:∀x∈l.drop k,bQ v x<=0:=by
  intro x hx;have h3:=h1 x hx;simp only[kQ,decide_eq_true_eq]at h3;have:=(FW v x).2 (by omega);omega
 rw[List.append_assoc,List.singleton_append];have hs:=h;rw[←List.take_append_drop k l]at hs;obtain⟨a1,a2,a3⟩:=List.pairwise_append.1 hs;refine List.pairwise_append.2 ⟨a1,List.pairwise_cons.2 ⟨hr,a2⟩,fun x hx y hy=> ?_⟩;rcases List.mem_cons.1 hy with rfl|hy
 ·exact hl x hx
 ·exact a3 x hx y hy
theorem wN (l:List Ver):CZ (bW l):=by
 have key:∀(l t:List Ver),CZ t->CZ (l.foldl (fun out v=>eU (kQ v) out v) t):=by
  intro l
  induction l with
  |nil=>exact fun t h=>h
  |cons v l ih=>exact fun t h=>ih _ (WF h v)
 exact key l [] List.Pairwise.nil
theorem ai4 {a b:List Ver}(h:a.Perm b):bW a=bW b:=
 List.Perm.eq_of_pairwise (le:=fun u w=>bQ u w<=0) (fun u w _ _=>abB) (wN a) (wN b) ((vV a).trans (h.trans (vV b).symm))
theorem ajN {α:Type}{R:α->α->Bool}(ht:∀a b c,R a b=true->R b c=true->R a c=true):∀{l:List α},adj R l=true->l.Pairwise fun a b=>R a b=true
 |[],_=>List.Pairwise.nil
 |[a],_=>by simp
 |a::b::l,h=>by
  simp only[adj,Bool.and_eq_true]at h;have ih:=ajN ht h.2;refine List.pairwise_cons.2 ⟨fun c hc=> ?_,ih⟩;rcases List.mem_cons.1 hc with rfl|hc
  ·exact h.1
  ·exact ht _ _ _ h.1 ((List.pairwise_cons.1 ih).1 c hc)
theorem aBD {α:Type}{R:α->α->Bool}{l:List α}(h:l.Pairwise fun a b=>R a b=true):adj R l=true:=by
 rw[UZ];intro i a b ha hb;have l1:=aS ha;have l2:=aS hb;rw[List.getElem?_eq_getElem l1]at ha;rw[List.getElem?_eq_getElem l2]at hb;rw[←Option.some.inj ha,←Option.some.inj hb];exact List.pairwise_iff_getElem.1 h i (i+1) l1 l2 (by omega)
theorem CE {l:List Ver}(h:eO l=true):(∀v∈l,bH v=true)/\(l.Pairwise fun a b=>bQ a b<0)/\l.length<=8:=by
 simp only[eO,Bool.and_eq_true,decide_eq_true_eq,List.all_eq_true]at h;refine⟨h.1.1,?_,h.2⟩
 have:=ajN (R:=fun a b=>decide (bQ a b<0)) (fun a b c h1 h2=>by
  simp only[decide_eq_true_eq]at h1 h2|-
  rw[FW]at h1 h2|-
  intro h3;have h4:bQ b c<=0:=by have:=(FW b c).2 h2;omega
  exact h1 (YJ h4 h3)) h.1.2
 exact this.imp fun h=>by simpa using h
theorem jX {v:Ver}(h:bH v=true):inT v.a/\inT v.b/\v.a<v.b:=by
 simp only[bH,Bool.and_eq_true,decide_eq_true_eq]at h;unfold inT;omega
theorem aiP {l:List Ver}(h1:∀v∈l,bH v=true)(h2:CZ l)(h3:l.Nodup)(h4:l.length<=8):eO l=true:=by
 simp only[eO,Bool.and_eq_true,decide_eq_true_eq,List.all_eq_true];refine⟨⟨h1,aBD ?_⟩,h4⟩;refine(h2.and h3).imp fun{u w} ⟨a,b⟩=> ?_;simp only[decide_eq_true_eq];rw[FW];exact fun hh=>b (abB a hh)
def ltK (u w:Ver):Prop:=u.a<w.a\/u.a=w.a/\u.b<w.b
structure aCG (l:List Ver) (i:Nat) (o:List Ver):Prop where
 sub:∀u∈o,u∈l.take i
 asc:o.Pairwise ltK
 top:∀p,o[o.length-1]?=some p->∀w∈l.take i,¬ltK p w
theorem azR {l:List Ver}(h:eO l=true):∀i≤l.length,aCG l i ((l.take i).foldl j6 [])
 |0,_=>⟨by simp,by simp,by simp⟩
 |i+1,hi=>by
  have ih:=azR h i (by omega);obtain⟨c,hc⟩:=aC (l:=l) (i:=i) (by omega)
  have hle:∀w∈l.take i,¬ltK c w:=by
   intro w hw hk;obtain⟨j,hj⟩:=List.getElem?_of_mem hw;have hjl:j<i:=by have:=aS hj;simp at this;omega
   rw[List.getElem?_take,if_pos hjl]at hj;have l1:=aS hc;have l2:=aS hj;rw[List.getElem?_eq_getElem l1]at hc;rw[List.getElem?_eq_getElem l2]at hj;have:=List.pairwise_iff_getElem.1 (CE h).2.1 j i l2 l1 hjl;rw[Option.some.inj hc,Option.some.inj hj]at this;have h5:=(JD w c).1 (by omega);unfold ltK at hk;omega
  rw[bC j6 [] hc];have hts:=aW hc;generalize(l.take i).foldl j6 []=o at ih|-
  have hpush:(∀u∈o,ltK u c)->aCG l (i+1) (o++[c]):=by
   intro hu;refine⟨fun u hm=> ?_,List.pairwise_append.2 ⟨ih.asc,by simp,fun u hu' w hw=> ?_⟩,fun p hp w hw=> ?_⟩
   ·rw[hts,List.mem_append];rcases List.mem_append.1 hm with hm|hm
    ·exact .inl (ih.sub u hm)
    ·exact .inr hm
   ·obtain rfl:w=c:=by simpa using hw
    exact hu u hu'
   ·have:p=c:=by simpa using hp.symm
    subst this;rw[hts,List.mem_append]at hw;rcases hw with hw|hw
    ·exact hle w hw
    ·obtain rfl:w=p:=by simpa using hw
     unfold ltK;omega
  unfold j6;split
  ·next hn=>
   have ho:o=[]:=by
    rw[List.getElem?_eq_none_iff]at hn;exact List.length_eq_zero_iff.1 (by omega)
   subst ho;exact hpush (by simp)
  ·next u hu=>
   have hum:u∈o:=List.mem_of_getElem? hu;have hulen:=aS hu;have huc:=hle u (ih.sub u hum);split
   ·next hne=>
    refine hpush fun x hx=> ?_;have:=ih.top u hu x (ih.sub x hx);unfold ltK at*
    omega
   ·next hne=>
    have hk:u.a=c.a/\u.b=c.b:=by omega
    split
    ·refine⟨fun x hx=> ?_,?_,fun p hp w hw=> ?_⟩
     ·rw[hts,List.mem_append];rcases List.mem_or_eq_of_mem_set hx with hx|rfl
      ·exact .inl (ih.sub x hx)
      ·exact .inr (by simp)
     ·rw[List.pairwise_iff_getElem];intro a b ha hb hab;rw[List.length_set]at ha hb;have hp:=List.pairwise_iff_getElem.1 ih.asc a b ha hb hab;rw[List.getElem_set,List.getElem_set];have hul:o[o.length-1]=u:=by rw[List.getElem?_eq_getElem hulen]at hu;exact Option.some.inj hu
      rw[if_neg (by omega)];split
      ·next e=>
       subst e;rw[hul]at hp;unfold ltK at*
       omega
      ·exact hp
     ·rw[List.length_set,List.getElem?_set_self (by omega)]at hp;obtain rfl:=Option.some.inj hp;rw[hts,List.mem_append]at hw;rcases hw with hw|hw
      ·exact hle w hw
      ·obtain rfl:w=c:=by simpa using hw
       unfold ltK;omega
    ·refine⟨fun x hx=> ?_,ih.asc,fun p hp w hw=> ?_⟩
     ·rw[hts,List.mem_append];exact .inl (ih.sub x hx)
     ·rw[hts,List.mem_append]at hw;rcases hw with hw|hw
      ·exact ih.top p hp w hw
      ·obtain rfl:w=c:=by simpa using hw
       rw[hu]at hp;obtain rfl:=Option.some.inj hp;unfold ltK;omega
theorem ahP {l:List Ver}(h:eO l=true):(∀v∈bS l,bH v=true)/\(bS l).Nodup:=by
 have hi:=azR h l.length (Nat.le_refl _);rw[List.take_length]at hi;refine⟨fun v hv=>(CE h).1 v (by have:=hi.sub v hv;rwa [List.take_length]at this),hi.asc.imp fun{u w} hk e=> ?_⟩;subst e;unfold ltK at hk;omega
theorem XF (l:List Ver):(bS l).length<=l.length:=by
 have:=wI j6 (fun t x=>by
  unfold j6;split
  ·simp
  ·split
   ·simp
   ·split<;>simp) l []
 simpa[bS]using this
def WS (l:List Ver):Bool:=l.any fun v=> !v.same&&decide (at1 (dX l) v.a.toNat=at1 (dX l) v.b.toNat)
def wU (st:List Ver×List Ver)(v:Ver):List Ver×List Ver:=if WS (st.1++[v])=true then(st.1,st.2++[v])else(st.1++[v],st.2)
def XR (l:List Ver):List Ver×List Ver:=(lM (l8 (bS l))).foldl wU (apart (bS l),[])
theorem anX {C ms:List Ver}(hC:∀v∈C,v.same=false)(hm:∀v∈ms,v.same=true)(hv:∀v∈C++ms,bH v=true):WS (C++ms)= !(C.all (tL (pJ ms))):=by
 have hs:l8 (C++ms)=ms:=by
  unfold l8;rw[List.filter_append,List.filter_eq_nil_iff.2 (fun v h=>by simp[hC v h]),List.filter_eq_self.2 hm];rfl
 have hin:∀v∈C++ms,inT v.a/\inT v.b:=fun v h=>⟨(jX (hv v h)).1,(jX (hv v h)).2.1⟩;unfold WS;generalize hL:C++ms=L at hs hin hv|-
 have h1:(L.any fun v=> !v.same&&decide (at1 (dX L) v.a.toNat=at1 (dX L) v.b.toNat))=C.any fun v=> !tL (pJ ms) v:=by
  rw[Bool.eq_iff_iff,List.any_eq_true,List.any_eq_true]
  have key:∀v∈L,(decide (at1 (dX L) v.a.toNat=at1 (dX L) v.b.toNat)=true↔(!tL (pJ ms) v)=true):=by
   intro v h;have hvv:=jX (hv v h);rw[decide_eq_true_eq,ag0 hin hs hvv.1 hvv.2.1 (by omega)];simp[tL]
  constructor
  ·rintro⟨v,hm1,h2⟩;rw[Bool.and_eq_true]at h2;refine⟨v,?_,(key v hm1).1 h2.2⟩;rw[←hL]at hm1;rcases List.mem_append.1 hm1 with h3|h3
   ·exact h3
   ·rw[hm v h3]at h2;simp at h2
  ·rintro⟨v,hm1,h2⟩;have hm2:v∈L:=by rw[←hL];simp[hm1]
   exact⟨v,hm2,by rw[Bool.and_eq_true];exact⟨by rw[hC v hm1];rfl,(key v hm2).2 h2⟩⟩
 rw[h1,List.any_eq_not_all_not];simp
structure aDX (cur C open':List Ver) (s:List (List Int)×List Ver×List Ver) (st:List Ver×List Ver) (ms:List Ver):Prop where
 kept:st.1=C++ms
 grp:s.1=pJ ms
 same:∀v∈ms,v.same=true
 perm:(st.1++st.2++open').Perm cur
 sort:bW s.2.1=bW st.1
 ref:s.2.2=st.2
theorem KS {cur C:List Ver}(h8:cur.length<=8)(hval:∀v∈cur,bH v=true)(hnd:cur.Nodup)(hC:∀v∈C,v.same=false):∀(open':List Ver),(∀v∈open',v.same=true)->∀{s:List (List Int)×List Ver×List Ver}{st:List Ver×List Ver}{ms:List Ver},aDX cur C open' s st ms->bW (open'.foldl (mH C) s).2.1=bW (open'.foldl wU st).1/\(open'.foldl (mH C) s).2.2=(open'.foldl wU st).2
 |[],_,s,st,ms,h=>⟨h.sort,h.ref⟩
 |v::rest,hsame,s,st,ms,h=>by
  rw[List.foldl_cons,List.foldl_cons];have hv:v.same=true:=hsame v (by simp)
  have hms:∀w∈ms++[v],w.same=true:=by
   intro w hw;rcases List.mem_append.1 hw with hw|hw
   ·exact h.same w hw
   ·obtain rfl:w=v:=by simpa using hw
    exact hv
  have hsub:∀w∈C++(ms++[v]),bH w=true:=by
   intro w hw;refine hval w (h.perm.mem_iff.1 ?_);rw[h.kept];simp only[List.mem_append,List.mem_cons,List.not_mem_nil,or_false]at hw|-
   rcases hw with hw|hw|hw
   ·exact .inl (.inl (.inl hw))
   ·exact .inl (.inl (.inr hw))
   ·exact .inr (.inl hw)
  have hcl:=anX hC hms hsub;have hja:pJ (ms++[v])=jB s.1 v.a v.b:=by rw[h.grp,pJ,List.foldl_append];rfl
  rw[hja]at hcl;have hk1:st.1++[v]=C++(ms++[v]):=by rw[h.kept,List.append_assoc]
  by_cases hc:C.all (tL (jB s.1 v.a v.b))=true
  ·have e1:mH C s v=(jB s.1 v.a v.b,pW (bW s.2.1) v,s.2.2):=if_pos hc;have e2:wU st v=(st.1++[v],st.2):=if_neg (by rw[hk1,hcl,hc];simp);rw[e1,e2]
   have hp:(st.1++[v]++st.2++rest).Perm cur:=by
    refine List.Perm.trans ?_ h.perm;rw[List.append_assoc,List.append_assoc,List.append_assoc];refine List.Perm.append_left _ ?_;rw[List.singleton_append];exact List.perm_middle.symm
   refine KS h8 hval hnd hC rest (fun w hw=>hsame w (by simp[hw])) ⟨hk1,hja.symm,hms,hp,?_,h.ref⟩;have hS:(bW s.2.1).Perm st.1:=by rw[h.sort];exact vV _
   have hlen:=hp.length_eq;simp only[List.length_append,List.length_cons,List.length_nil]at hlen
   have hnd2:(st.1++[v]).Nodup:=by
    have:=hp.nodup_iff.2 hnd;rw[List.append_assoc]at this;exact(List.nodup_append.1 this).1
   have hmem:∀w∈bW s.2.1,bH w=true:=fun w hw=>hsub w (by rw[←hk1,List.mem_append];exact .inl (hS.mem_iff.1 hw))
   have hok:xJ (bW s.2.1) v=true:=by
    simp only[xJ,Bool.and_eq_true,Bool.not_eq_true',decide_eq_true_eq];refine⟨⟨⟨aiP hmem (wN _) ?_ ?_,hsub v (by simp)⟩,?_⟩,?_⟩
    ·exact hS.nodup_iff.2 (List.nodup_append.1 hnd2).1
    ·rw[hS.length_eq];omega
    ·rw[List.any_eq_false];intro w hw;have hw2:=hS.mem_iff.1 hw;have:=(List.nodup_append.1 hnd2).2.2 w hw2 v (by simp);simpa using this
    ·rw[hS.length_eq];omega
   have hadd:pW (bW s.2.1) v=(bW s.2.1).take (YY (bW s.2.1) v)++[v]++(bW s.2.1).drop (YY (bW s.2.1) v):=if_pos hok;refine ai4 ?_;simp only;rw[hadd,List.append_assoc,List.singleton_append];refine List.perm_middle.trans ?_;rw[List.take_append_drop];refine(hS.cons v).trans ?_;have:=List.perm_append_comm (l₁:=[v]) (l₂:=st.1);simpa using this
  ·have e1:mH C s v=(s.1,s.2.1,s.2.2++[v]):=if_neg hc;have e2:wU st v=(st.1,st.2++[v]):=if_pos (by rw[hk1,hcl,(by simpa using hc:C.all (tL (jB s.1 v.a v.b))=false)];rfl);rw[e1,e2]
   have hp:(st.1++(st.2++[v])++rest).Perm cur:=by
    refine List.Perm.trans ?_ h.perm;simp[List.append_assoc]
   exact KS h8 hval hnd hC rest (fun w hw=>hsame w (by simp[hw])) ⟨h.kept,h.grp,h.same,hp,h.sort,by rw[h.ref]⟩
theorem YQ {l:List Ver}(h:eO l=true):bW (XR l).1=kH l/\bW (XR l).2=iD l:=by
 obtain⟨hval,hnd⟩:=ahP h
 have h8:(bS l).length<=8:=by
  have:=(CE h).2.2;have:=XF l;omega
 have hp:(apart (bS l)++lM (l8 (bS l))).Perm (bS l):=by
  refine((yE _).append_left _).trans ?_;refine List.perm_append_comm.trans ?_;exact List.filter_append_perm (fun v:Ver=>v.same) (bS l)
 have:=KS (cur:=bS l) (C:=apart (bS l)) h8 hval hnd (fun v hv=>by simpa using(List.mem_filter.1 hv).2) (lM (l8 (bS l))) (fun v hv=>(List.mem_filter.1 ((yE _).mem_iff.1 hv)).2) (s:=([],apart (bS l),[])) (st:=(apart (bS l),[])) (ms:=[]) ⟨by simp,rfl,by simp,by simpa using hp,rfl,rfl⟩;unfold kH iD yT XR;rw[this.1,this.2];exact⟨rfl,rfl⟩
def xX (f:Nat->Bool):Nat->Option Nat
 |0=>none
 |a+1=>if f a=true then some a else xX f a
theorem KU {f:Nat->Bool}{a:Nat}:∀{n:Nat},xX f n=some a↔a<n/\f a=true/\∀k,a<k->k<n->f k=false
 |0=>by simp[xX]
 |n+1=>by
  rw[xX];by_cases h:f n=true
  ·rw[if_pos h,Option.some.injEq];constructor
   ·rintro rfl;exact⟨by omega,h,fun k h1 h2=>by omega⟩
   ·rintro⟨h1,h2,h3⟩;by_cases he:n=a
    ·exact he
    ·rw[h3 n (by omega) (by omega)]at h;cases h
  ·rw[if_neg h,KU];have hf:f n=false:=by simpa using h
   constructor
   ·rintro⟨h1,h2,h3⟩;refine⟨by omega,h2,fun k hk hkn=> ?_⟩;by_cases he:k=n
    ·rw[he];exact hf
    ·exact h3 k hk (by omega)
   ·rintro⟨h1,h2,h3⟩;refine⟨?_,h2,fun k hk hkn=>h3 k hk (by omega)⟩;by_cases he:a=n
    ·rw[he,hf]at h2;cases h2
    ·omega
def RS (o items:List Int)(b a:Nat):Bool:=decide (at1 o (at1 items a).toNat=at1 o (at1 items b).toNat)
def BV (o items:List Int)(b:Nat):List Con:=match xX (RS o items b) b with
 |some a=>[⟨a,b,true⟩]
 |none=>[]
def qO (o items:List Int)(n:Nat):List Con:=(List.range n).flatMap (BV o items)
def afW (kept:List Ver)(items:List Int):List Con:=vO (apart kept) items++qO (dX kept) items items.length
theorem Y4 (o items:List Int)(n:Nat):qO o items (n+1)=qO o items n++BV o items n:=by simp[qO,List.range_succ]
theorem acU {l:List Int}(h:l.Nodup){i k:Nat}(hi:i<l.length)(hk:k<l.length)(e:at1 l i=at1 l k):i=k:=by
 have h1:=aF hi;have h2:=aF hk;rw[List.getElem?_eq_getElem hi]at h1;rw[List.getElem?_eq_getElem hk]at h2;have h3:l[i]=l[k]:=by rw[Option.some.inj h1,Option.some.inj h2,e]
 rcases Nat.lt_trichotomy i k with hlt|he|hlt
 ·exact absurd h3 (List.pairwise_iff_getElem.1 h i k hi hk hlt)
 ·exact he
 ·exact absurd h3.symm (List.pairwise_iff_getElem.1 h k i hk hi hlt)
theorem amR {kept:List Ver}{items:List Int}(hk:∀v∈kept,bH v=true)(hi:∀x∈items,inT x)(hn:items.Nodup):(afW kept items).Perm (iI kept items):=by
 have hin:∀v∈kept,inT v.a/\inT v.b:=fun v h=>⟨(jX (hk v h)).1,(jX (hk v h)).2.1⟩;have hj:joined kept=pJ (l8 kept):=rfl
 have link:∀a b,a<items.length->b<items.length->a≠b->(RS (dX kept) items b a=true↔(0<=bB (joined kept) (at1 items a)/\bB (joined kept) (at1 items a)=bB (joined kept) (at1 items b))):=by
  intro a b ha hb hne;have h1:=hi _ (List.mem_of_getElem? (aF ha));have h2:=hi _ (List.mem_of_getElem? (aF hb));rw[RS,decide_eq_true_eq,ag0 hin rfl h1 h2 (fun e=>hne (acU hn ha hb e)),hj]
 have hmem:∀c,c∈qO (dX kept) items items.length↔c∈zY (joined kept) items:=by
  intro c;unfold qO zY;simp only[List.mem_flatMap,List.mem_range];constructor
  ·rintro⟨b,hb,hc⟩;unfold BV at hc;split at hc
   ·next a ha=>
    obtain rfl:c=⟨a,b,true⟩:=by simpa using hc
    obtain⟨h1,h2,h3⟩:=KU.1 ha;have h4:=(link a b (by omega) hb (by omega)).1 h2;refine⟨a,by omega,?_⟩
    have h5:FY (joined kept) items a=some b:=by
     unfold FY;rw[List.find?_range_eq_some];refine⟨by simp;exact⟨h1,h4.2.symm⟩,by simpa using hb,fun k hkb=> ?_⟩;simp only[Bool.not_eq_true',Bool.and_eq_false_iff,decide_eq_false_iff_not];by_cases hak:a<k
     ·right;intro e;have:=(link k b (by omega) hb (by omega)).2 ⟨by rw[e];exact h4.1,by rw[e];exact h4.2⟩;rw[h3 k hak hkb]at this;cases this
     ·left;exact hak
    unfold kM;rw[if_pos h4.1,h5];simp
   ·cases hc
  ·rintro⟨a,ha,hc⟩;unfold kM at hc;split at hc
   ·next h0=>
    split at hc
    ·next b hb=>
     obtain rfl:c=⟨a,b,true⟩:=by simpa using hc
     unfold FY at hb;rw[List.find?_range_eq_some]at hb;obtain⟨h1,h2,h3⟩:=hb;simp only[Bool.and_eq_true,decide_eq_true_eq]at h1;have hbl:b<items.length:=by simpa using h2
     refine⟨b,hbl,?_⟩
     have h5:xX (RS (dX kept) items b) b=some a:=by
      rw[KU];refine⟨h1.1,(link a b ha hbl (by omega)).2 ⟨h0,h1.2.symm⟩,fun k hak hkb=> ?_⟩;rw[Bool.eq_false_iff];intro hl;have h6:=(link k b (by omega) hbl (by omega)).1 hl;have h7:=h3 k hkb;simp only[Bool.not_eq_true',Bool.and_eq_false_iff,decide_eq_false_iff_not]at h7;rcases h7 with h7|h7
      ·exact h7 hak
      ·exact h7 (by rw[h6.2,h1.2])
     unfold BV;rw[h5];simp
    ·cases hc
   ·cases hc
 have hnd1:(qO (dX kept) items items.length).Nodup:=by
  refine List.pairwise_flatMap.2 ⟨fun b _=> ?_,List.pairwise_lt_range.imp fun{b b'} hlt x hx y hy=> ?_⟩
  ·unfold BV;split<;>simp
  ·unfold BV at hx hy;split at hx<;>split at hy
   ·obtain rfl:=List.mem_singleton.1 hx;obtain rfl:=List.mem_singleton.1 hy;intro e;have:=congrArg Con.b e;simp at this;omega
   all_goals simp at hx hy
 have hnd2:(zY (joined kept) items).Nodup:=by
  refine List.pairwise_flatMap.2 ⟨fun b _=> ?_,List.pairwise_lt_range.imp fun{b b'} hlt x hx y hy=> ?_⟩
  ·unfold kM;split
   ·split<;>simp
   ·simp
  ·unfold kM at hx hy;split at hx<;>split at hy
   ·split at hx<;>split at hy
    ·obtain rfl:=List.mem_singleton.1 hx;obtain rfl:=List.mem_singleton.1 hy;intro e;have:=congrArg Con.a e;simp at this;omega
    all_goals simp at hx hy
   all_goals simp at hx hy
 have hp:=(List.perm_ext_iff_of_nodup hnd1 hnd2).2 hmem;unfold afW iI;exact List.perm_append_comm.trans (hp.append_right _)
def gstep (c:Nat->Int->Bool)(v:Int)(k:Nat)(l:List Int):List Int:=if c k (at1 l k)=true then l.set k v else l
theorem VJ (c:Nat->Int->Bool)(v:Int)(l:List Int):∀j≤l.length,(loopN j l (gstep c v)).length=l.length/\∀k,k<l.length->at1 (loopN j l (gstep c v)) k=if k<j/\c k (at1 l k)=true then v else at1 l k
 |0,_=>⟨rfl,fun k hk=>by rw[loopN_zero,if_neg (by omega)]⟩
 |j+1,hj=>by
  obtain⟨h1,h2⟩:=VJ c v l j (by omega);rw[aA];have h3:=h2 j (by omega);rw[if_neg (by omega)]at h3;generalize loopN j l (gstep c v)=o at h1 h2 h3|-
  unfold gstep;rw[h3];by_cases hc:c j (at1 l j)=true
  ·rw[if_pos hc];refine⟨by simp[h1],fun k hk=> ?_⟩;rw[pQ k (by omega),h2 k hk];by_cases hjk:j=k
   ·subst hjk;rw[if_pos rfl,if_pos ⟨by omega,hc⟩]
   ·rw[if_neg hjk];by_cases h4:k<j/\c k (at1 l k)=true
    ·rw[if_pos h4,if_pos ⟨by omega,h4.2⟩]
    ·rw[if_neg h4,if_neg (fun h5=>h4 ⟨by omega,h5.2⟩)]
  ·rw[if_neg hc];refine⟨h1,fun k hk=> ?_⟩;rw[h2 k hk];by_cases h4:k<j/\c k (at1 l k)=true
   ·rw[if_pos h4,if_pos ⟨by omega,h4.2⟩]
   ·rw[if_neg h4,if_neg];rintro⟨h5,h6⟩;by_cases hjk:k=j
    ·subst hjk;exact hc h6
    ·exact h4 ⟨by omega,h6⟩
def pvB (m:List (List Int))(p:Nat)(k:Nat)(z:Int):Bool:=decide (0<at2 m p k)&&decide (z<0)
def TB (m:List (List Int))(order:List Int)(i:Nat)(l:List Int):List Int:=if 0<=at1 l (at1 order i).toNat then l else loopN m.length (l.set (at1 order i).toNat (at1 order i)) (gstep (pvB m (at1 order i).toNat) (at1 order i))
def auZ (m:List (List Int))(order:List Int):List Int:=loopN order.length (List.replicate m.length (-1)) (TB m order)
def PvR (order:List Int)(n:Nat)(a b:List Int):Prop:=a.length=n/\b.length=n/\∀k<n,(at1 a k= -1/\at1 b k= -1)\/(0<=at1 a k/\at1 a k<order.length/\at1 b k=at1 order (at1 a k).toNat)
theorem an0 (m:List (List Int))(p x:Int):pM m p x=gstep (fun k z=>decide (z<0/\((k:Int)=p\/at2 m p.toNat k>0))) x:=by
 funext k l;unfold pM gstep;simp only[decide_eq_true_eq]
theorem aAK {m:List (List Int)}(hm:aI m=true){order:List Int}(ho:wW m.length order=true):∀j≤order.length,PvR order m.length (loopN j (List.replicate m.length (-1)) (pivOne m order)) (loopN j (List.replicate m.length (-1)) (TB m order)):=by
 obtain⟨hol,_,_,hnd,hrg⟩:=NJ ho;intro j
 induction j with
 |zero=>
  refine fun _=>⟨by simp[loopN_zero],by simp[loopN_zero],fun k hk=> .inl ?_⟩;simp[loopN_zero,at1,List.getD_eq_getElem?_getD,hk]
 |succ j ih=>
  intro hj;have hr:=ih (by omega);rw[aA,aA];generalize loopN j (List.replicate m.length (-1)) (pivOne m order)=a at hr|-
  generalize loopN j (List.replicate m.length (-1)) (TB m order)=b at hr|-
  obtain⟨ha,hb,h⟩:=hr;have hp:=hrg j (by omega);have hpl:(at1 order j).toNat<m.length:=by omega
  have hpp:=h _ hpl;unfold pivOne TB
  have hsg:(0<=at1 a (at1 order j).toNat)↔(0<=at1 b (at1 order j).toNat):=by
   rcases hpp with⟨h1,h2⟩|⟨h1,h2,h3⟩
   ·omega
   ·have:=hrg (at1 a (at1 order j).toNat).toNat (by omega);omega
  by_cases h0:0<=at1 a (at1 order j).toNat
  ·rw[if_pos h0,if_pos (hsg.1 h0)];exact⟨ha,hb,h⟩
  ·rw[if_neg h0,if_neg (fun e=>h0 (hsg.2 e)),an0];obtain⟨g1,g2⟩:=VJ (fun k z=>decide (z<0/\((k:Int)=at1 order j\/at2 m (at1 order j).toNat k>0))) (j:Int) a m.length (by omega);obtain⟨g3,g4⟩:=VJ (pvB m (at1 order j).toNat) (at1 order j) (b.set (at1 order j).toNat (at1 order j)) m.length (by simp[hb]);refine⟨by rw[g1,ha],by rw[g3];simp[hb],fun k hk=> ?_⟩;rw[g2 k (by omega),g4 k (by simp[hb,hk])];rw[pQ k (by omega)];have hk0:=h k hk
   have hd:at2 m (at1 order j).toNat (at1 order j).toNat=0:=by
    have:=hm;rw[Q0]at this;simp only[vE,Bool.and_eq_true,List.all_eq_true,List.mem_range,decide_eq_true_eq]at this;exact(this.1 _ hpl).1.2
   by_cases hkp:(at1 order j).toNat=k
   ·rw[if_pos hkp];have h5:at1 a k<0:=by rw[←hkp];omega
    rw[if_pos ⟨hk,by simp only[decide_eq_true_eq];exact⟨h5,.inl (by omega)⟩⟩];rw[if_neg (by rintro⟨_,h6⟩;simp only[pvB,Bool.and_eq_true,decide_eq_true_eq]at h6;omega)];right;refine⟨by omega,by omega,?_⟩;simp
   ·rw[if_neg hkp];have hkp':¬(k:Int)=at1 order j:=by omega
    by_cases hw:at1 a k<0/\at2 m (at1 order j).toNat k>0
    ·have hbk:at1 b k<0:=by
      rcases hk0 with h6|h6
      ·omega
      ·omega
     rw[if_pos ⟨hk,by simp only[decide_eq_true_eq];exact⟨hw.1,.inr hw.2⟩⟩,if_pos ⟨hk,by simp only[pvB,Bool.and_eq_true,decide_eq_true_eq];exact⟨hw.2,hbk⟩⟩];right;refine⟨by omega,by omega,by simp⟩
    ·rw[if_neg (by rintro⟨_,h6⟩;simp only[decide_eq_true_eq]at h6;exact hw ⟨h6.1,h6.2.resolve_left hkp'⟩)];rw[if_neg]
     ·exact hk0
     ·rintro⟨_,h6⟩;simp only[pvB,Bool.and_eq_true,decide_eq_true_eq]at h6;rcases hk0 with h7|⟨h7,h8,h9⟩
      ·exact hw ⟨by omega,h6.1⟩
      ·have:=hrg (at1 a k).toNat (by omega);omega
theorem arM {m:List (List Int)}(hm:aI m=true){order:List Int}(ho:wW m.length order=true):canon (auZ m order)=eF m order:=by
 obtain⟨hol,_,_,hnd,hrg⟩:=NJ ho;obtain⟨h1,h2,h3⟩:=aAK hm ho order.length (Nat.le_refl _);unfold eF U4 auZ;refine(agR (by rw[h1,h2]) fun i k hi hk=> ?_).symm;rw[h1]at hi hk;have a:=h3 i hi;have b:=h3 k hk;rcases a with⟨a1,a2⟩|⟨a1,a2,a3⟩<;>rcases b with⟨b1,b2⟩|⟨b1,b2,b3⟩
 ·omega
 ·have:=hrg _ (show(at1 (loopN order.length (List.replicate m.length (-1)) (pivOne m order)) k).toNat<order.length by omega);omega
 ·have:=hrg _ (show(at1 (loopN order.length (List.replicate m.length (-1)) (pivOne m order)) i).toNat<order.length by omega);omega
 ·rw[a3,b3];constructor
  ·intro e;rw[e]
  ·intro e;have:=acU hnd (by omega) (by omega) e;omega
theorem ah2 {σ:Type}{a n:Nat}{s:σ}{f:Nat->σ->σ}(h:∀i x,a<=i->i<n->f i x=x)(ha:a<=n):loopN n s f=loopN a s f:=by
 induction n with
 |zero=>obtain rfl:a=0:=by omega
        rfl
 |succ n ih=>
  by_cases he:a=n+1
  ·rw[he]
  ·rw[aA,h n _ (by omega) (by omega)];exact ih (fun i x h1 h2=>h i x h1 (by omega)) (by omega)
def mvGain (m:List (List Int))(l:List Int)(i k:Nat):Int:=aQ m l-aQ m (canon (l.set i k))
def xG (m:List (List Int))(cs:List Con)(l:List Int)(i k:Nat)(b:Mov):Mov:=if mvGain m l i k>b.gain/\gN cs (canon (l.set i k))=true then⟨i,k,mvGain m l i k⟩else b
def ak2 (m:List (List Int))(cs:List Con)(l:List Int)(i:Nat)(b:Mov):Mov:=loopN (rV l+2).toNat b (xG m cs l i)
def mvBest (m:List (List Int))(cs:List Con)(l:List Int):Mov:=loopN l.length ⟨0,0,0⟩ (ak2 m cs l)
theorem afC {l:List Int}(h:bJ l=true):rV l<l.length/\ -1<=rV l:=by
 have hr:=(isPart_iff.1 h).1;have hl:=(isPart_len h).1
 have key:∀j≤l.length, -1<=loopN j (-1) (fun i t=>max t (at1 l i))/\loopN j (-1) (fun i t=>max t (at1 l i))<(l.length:Int):=by
  intro j
  induction j with
  |zero=>intro _;rw[loopN_zero];omega
  |succ j ih=>
   intro hj;have:=ih (by omega);have:=arV hr j (by omega);rw[aA];omega
 have:=key l.length (Nat.le_refl _);unfold rV;omega
theorem MC {l:List Int}(h:1<=l.length/\l.length<=8):bJ (canon l)=true:=isPart_iff.2 ⟨zV l,by rw[jI];exact h.1,by rw[jI];exact h.2⟩
theorem AA {m:List (List Int)}{l:List Int}(hm:aI m=true)(hp:bJ l=true)(hl:l.length=m.length):mV m l=aQ m l:=if_pos ⟨hm,hp,hl⟩
theorem aoX {m:List (List Int)}{cs:List Con}{l:List Int}(hm:aI m=true)(hp:bJ l=true)(hl:l.length=m.length)(hk:gN cs l=true):mvBest m cs l=gD m cs l:=by
 have hc:adX m cs l=true:=by
  unfold adX;rw[AA hm hp hl,agM hp,hk];have:=d9 hm l;simp[this]
 have ht:=afC hp;have hpl:=isPart_len hp;unfold mvBest gD;rw[if_pos hc];refine nK fun i b hi=> ?_;unfold ak2 VX
 have h1:loopN (l.length+1) b (oZ m cs l i)=loopN (rV l+2).toNat b (oZ m cs l i):=by
  refine ah2 (fun k x h1 h2=> ?_) (by omega);unfold oZ;rw[if_neg];rintro⟨h3,_⟩;simp only[oJ,Bool.and_eq_true,decide_eq_true_eq]at h3;omega
 rw[h1];refine nK fun k b hk2=> ?_
 have hok:oJ l i k=true:=by
  simp only[oJ,Bool.and_eq_true,decide_eq_true_eq];exact⟨⟨hp,by omega⟩,by omega⟩
 have hmv:jW l i k=canon (l.set i k):=by
  unfold jW;rw[if_pos hok];simp
 have hcl:(canon (l.set i k)).length=l.length:=by rw[jI];simp
 have hcp:bJ (canon (l.set i k))=true:=MC (by simp;omega)
 have hg:z8 m l i k=mvGain m l i k:=by
  unfold z8 mvGain;have:=d9 hm l;rw[AA hm hp hl,if_pos ⟨hok,this⟩,hmv,AA hm hcp (by omega)]
 unfold xG oZ;rw[hg,hmv,agM hcp];simp[hok]
theorem Z8 {m:List (List Int)}{cs:List Con}{l:List Int}:0<=(mvBest m cs l).gain/\(0<(mvBest m cs l).gain->0<=(mvBest m cs l).item/\(mvBest m cs l).item<l.length/\0<=(mvBest m cs l).block/\(mvBest m cs l).block<=rV l+1/\gN cs (canon (l.set (mvBest m cs l).item.toNat (mvBest m cs l).block))=true):=by
 refine loopN_inv (fun _ (b:Mov)=>0<=b.gain/\(0<b.gain->0<=b.item/\b.item<l.length/\0<=b.block/\b.block<=rV l+1/\gN cs (canon (l.set b.item.toNat b.block))=true)) ⟨by simp,by simp⟩ fun i b hi hb=> ?_;refine loopN_inv (fun _ (b:Mov)=>0<=b.gain/\(0<b.gain->0<=b.item/\b.item<l.length/\0<=b.block/\b.block<=rV l+1/\gN cs (canon (l.set b.item.toNat b.block))=true)) hb fun k b hk hb=> ?_;unfold xG;split
 ·next h=>exact⟨by simp only;omega,fun _=>⟨by simp only;omega,by simp only;omega,by simp only;omega,by simp only;omega,by simpa using h.2⟩⟩
 ·exact hb
theorem aiM {m:List (List Int)}{cs:List Con}{l:List Int}(hm:aI m=true)(hp:bJ l=true)(hl:l.length=m.length)(hk:gN cs l=true)(f:Nat):jV m cs (f+1) l=if 0<(mvBest m cs l).gain then jV m cs f (canon (l.set (mvBest m cs l).item.toNat (mvBest m cs l).block))else l:=by
 rw[jV,←aoX hm hp hl hk];obtain⟨h1,h2⟩:=Z8 (m:=m) (cs:=cs) (l:=l);split
 ·next hg=>
  have h3:=h2 hg;congr 1;unfold jW;rw[if_pos];simp only[oJ,Bool.and_eq_true,decide_eq_true_eq];exact⟨⟨hp,by omega⟩,by omega⟩
 ·rfl
theorem akZ {n:Nat}{a b:List (List Int)}(ha:sq2 n a)(hb:sq2 n b)(h:∀i k,i<n->k<n->at2 a i k=at2 b i k):a=b:=by
 apply List.ext_getElem?;intro i;by_cases hi:i<n
 ·rw[(kN ha hi).1,(kN hb hi).1];congr 1;refine acX (by rw[(kN ha hi).2,(kN hb hi).2]) fun k hk=> ?_;rw[(kN ha hi).2]at hk;exact h i k hi hk
 ·rw[List.getElem?_eq_none (by rw[ha.1];omega),List.getElem?_eq_none (by rw[hb.1];omega)]
def wAt (l:List Rec)(rs:List (List Tst))(s:Sco)(i k:Nat):Int:=cO rs s (uY (recAt l i) (recAt l k))
def acI (l:List Rec)(rs:List (List Tst))(s:Sco)(i k:Nat)(m:List (List Int)):List (List Int):=set2 (set2 m i k (wAt l rs s i k)) k i (wAt l rs s i k)
def ag8 (l:List Rec)(rs:List (List Tst))(s:Sco)(i:Nat)(m:List (List Int)):List (List Int):=loopN i m (acI l rs s i)
def bwM (l:List Rec)(rs:List (List Tst))(s:Sco):List (List Int):=loopN l.length (zeros l.length) (ag8 l rs s)
theorem aB6 (l:List Rec)(rs:List (List Tst))(s:Sco){i k:Nat}(h:k<i):wAt l rs s i k=fF l rs s i k:=by
 unfold wAt fF;rw[if_neg (by omega),Nat.min_eq_right (by omega),Nat.max_eq_left (by omega),ajY]
theorem abK {l:List Rec}{rs:List (List Tst)}{s:Sco}{n i k:Nat}{m:List (List Int)}(h:sq2 n m)(hi:i<n)(hk:k<i):sq2 n (acI l rs s i k m):=oC (oC h hi _) (by omega) _
theorem aDE {l:List Rec}{rs:List (List Tst)}{s:Sco}{n i k:Nat}{m:List (List Int)}(h:sq2 n m)(hi:i<n)(hk:k<=i):sq2 n (loopN k m (acI l rs s i)):=loopN_inv (fun _ m=>sq2 n m) h fun j m hj hm=>abK hm hi (by omega)
theorem az4 {l:List Rec}{rs:List (List Tst)}{s:Sco}{n i:Nat}(hi:i<=n):sq2 n (loopN i (zeros n) (ag8 l rs s)):=loopN_inv (fun _ m=>sq2 n m) (jD n) fun j m hj hm=>aDE hm (by omega) (Nat.le_refl _)
theorem aBV (l:List Rec)(rs:List (List Tst))(s:Sco):bwM l rs s=weights l rs s:=by
 have hw:sq2 l.length (weights l rs s):=⟨by simp[weights],fun r hr=>by
  unfold weights at hr;rw[List.mem_map]at hr;obtain⟨i,_,rfl⟩:=hr;simp[nT]⟩
 refine akZ (az4 (Nat.le_refl _)) hw fun a b ha hb=> ?_;rw[LA l rs s ha hb]
 have key:=loopN_inv (n:=l.length) (s:=zeros l.length) (f:=ag8 l rs s) (fun i m=>sq2 l.length m/\∀a b,a<l.length->b<l.length->at2 m a b=if a<i/\b<i then fF l rs s a b else 0) ⟨jD _,fun a b _ _=>by rw[AP,if_neg (by omega)]⟩ fun i m hi ⟨h1,h2⟩=>by
  have h3:=loopN_inv (n:=i) (s:=m) (f:=acI l rs s i) (fun k m'=>sq2 l.length m'/\∀a b,a<l.length->b<l.length->at2 m' a b=if(a<i/\b<i)\/(a=i/\b<k)\/(b=i/\a<k)then fF l rs s a b else 0) ⟨h1,fun a b ha hb=>by rw[h2 a b ha hb];by_cases hc:a<i/\b<i;(rw[if_pos hc,if_pos (.inl hc)]);rw[if_neg hc,if_neg (by omega)]⟩ fun k m' hk ⟨h4,h5⟩=>by
   refine⟨abK h4 hi hk,fun a b ha hb=> ?_⟩;unfold acI;rw[uW (oC h4 hi _) (by omega) hi,uW h4 hi (by omega),h5 a b ha hb,aB6 l rs s hk];by_cases c1:a=k/\b=i
   ·obtain⟨rfl,rfl⟩:=c1;rw[if_pos ⟨rfl,rfl⟩,if_pos (by omega),KH]
   ·rw[if_neg c1];by_cases c2:a=i/\b=k
    ·obtain⟨rfl,rfl⟩:=c2;rw[if_pos ⟨rfl,rfl⟩,if_pos (by omega)]
    ·rw[if_neg c2];by_cases c3:(a<i/\b<i)\/(a=i/\b<k)\/(b=i/\a<k)
     ·rw[if_pos c3,if_pos (by omega)]
     ·rw[if_neg c3,if_neg (by omega)]
  refine⟨h3.1,fun a b ha hb=> ?_⟩;rw[ag8,h3.2 a b ha hb];by_cases c:a=i/\b=i
  ·obtain⟨rfl,rfl⟩:=c;rw[if_neg (by omega),if_pos (by omega)];simp[fF]
  ·by_cases c2:(a<i/\b<i)\/(a=i/\b<i)\/(b=i/\a<i)
   ·rw[if_pos c2,if_pos (by omega)]
   ·rw[if_neg c2,if_neg (by omega)]
 rw[bwM,key.2 a b ha hb,if_pos ⟨ha,hb⟩]
section
variable (x y:Str) (tr:Bool)
def edP (i k:Nat):List Int:=edR x y tr i k++List.replicate (y.length+1-k) 0
def edT (i:Nat):List (List Int):=(List.range i).map fun i=>edR x y tr i (y.length+1)
def edU (i k:Nat):List (List Int):=edT x y tr i++edP x y tr i k::List.replicate (x.length-i) []
variable {x y tr}
theorem IL (i k:Nat):(edR x y tr i k).length=k:=by simp[edR]
theorem av8 {i k:Nat}(h:k<=y.length+1):(edP x y tr i k).length=y.length+1:=by simp[edP,IL];omega
theorem U7 {i k j:Nat}(h:j<k):(edR x y tr i k)[j]?=some (ed x y tr i j):=by simp[edR,h]
theorem awS {i k j:Nat}(h:j<k):(edP x y tr i k)[j]?=some (ed x y tr i j):=by
 rw[edP,List.getElem?_append_left (by rw[IL];exact h),U7 h]
theorem aBU {i k:Nat}(h:k<=y.length):(edP x y tr i k)[k]?=some 0:=by
 rw[edP,List.getElem?_append_right (by rw[IL];omega),IL,Nat.sub_self,List.getElem?_replicate,if_pos (by omega)]
theorem ax5 {i k:Nat}(h:k<=y.length):(edP x y tr i k).set k (ed x y tr i k)=edP x y tr i (k+1):=by
 obtain⟨d,hd⟩:∃d,y.length+1-k=d+1:=⟨y.length-k,by omega⟩;have hd2:y.length+1-(k+1)=d:=by omega
 rw[edP,edP,hd,hd2,List.set_append_right _ _ (by rw[IL];omega),IL,Nat.sub_self,List.replicate_succ,List.set_cons_zero,edR,edR,List.range_succ,List.map_append];simp
theorem tN (i:Nat):(edT x y tr i).length=i:=by simp[edT]
theorem alT {i j:Nat}(h:j<i):(edT x y tr i)[j]?=some (edR x y tr j (y.length+1)):=by simp[edT,h]
theorem ayM {i k j:Nat}(h:j<i):(edU x y tr i k)[j]?=some (edR x y tr j (y.length+1)):=by
 rw[edU,List.getElem?_append_left (by rw[tN];exact h),alT h]
theorem ak7 (i k:Nat):(edU x y tr i k)[i]?=some (edP x y tr i k):=by
 rw[edU,List.getElem?_append_right (by rw[tN];omega),tN,Nat.sub_self];rfl
theorem axC (i k:Nat)(r:List Int):(edU x y tr i k).set i r=edT x y tr i++r::List.replicate (x.length-i) []:=by
 rw[edU,List.set_append_right _ _ (by rw[tN];omega),tN,Nat.sub_self];rfl
theorem avP (i:Nat):edT x y tr (i+1)=edT x y tr i++[edR x y tr i (y.length+1)]:=by simp[edT,List.range_succ]
theorem av7 (i:Nat):edP x y tr i (y.length+1)=edR x y tr i (y.length+1):=by simp[edP]
end
section
variable {α:Type}
def gV (p:α->α->Bool)(l:List α):List α:=l.foldl (fun out v=>eU (p v) out v) []
def NZ (out:List α)(v:α)(j:Nat):List α:=out.take j++v::out.drop j
def sJ (p:α->α->Bool)(l:List α)(i j:Nat)(v:α):List α:=NZ (gV p (l.take i)) v j++l.drop (i+1)
theorem ao4 (p:α->α->Bool)(l:List α):(gV p l).length=l.length:=by have:=tV p l [];rwa [List.length_nil,Nat.zero_add]at this
theorem sZ {p:α->α->Bool}{l:List α}{i:Nat}(h:i<=l.length):(gV p (l.take i)).length=i:=by rw[ao4];simp;omega
theorem apA (out:List α)(v:α):NZ out v out.length=out++[v]:=by simp[NZ]
theorem av5 {p:α->α->Bool}{l:List α}{i:Nat}{v:α}(h:l[i]?=some v):sJ p l i i v=gV p (l.take i)++l.drop i:=by
 have hi:=aS h;have hl:=sZ (p:=p) (l:=l) (i:=i) (by omega)
 have:NZ (gV p (l.take i)) v i=gV p (l.take i)++[v]:=by
  have:=apA (gV p (l.take i)) v
  rwa [hl]at this
 rw[sJ,this,List.append_assoc,List.drop_eq_getElem_cons hi];rw[List.getElem?_eq_getElem hi]at h;rw[Option.some.inj h];rfl
theorem atY {p:α->α->Bool}{l:List α}{i j:Nat}{v:α}(hi:i<l.length)(hj:j<=i):(sJ p l i j v)[j]?=some v:=by
 have hl:=sZ (p:=p) (l:=l) (i:=i) (by omega);rw[sJ,NZ,List.append_assoc,List.getElem?_append_right (by simp;omega)];simp[hl,Nat.min_eq_left hj]
theorem amZ {p:α->α->Bool}{l:List α}{i j:Nat}{v c:α}(hi:i<l.length)(hj:j<i)(hc:(gV p (l.take i))[j]?=some c):(sJ p l i (j+1) v)[j]?=some c:=by
 have hl:=sZ (p:=p) (l:=l) (i:=i) (by omega);rw[sJ,NZ,List.append_assoc,List.getElem?_append_left (by simp;omega),List.getElem?_take,if_pos (by omega),hc]
theorem anB {p:α->α->Bool}{l:List α}{i j:Nat}{v c:α}(hi:i<l.length)(hj:j<i)(hc:(gV p (l.take i))[j]?=some c):((sJ p l i (j+1) v).set (j+1) c).set j v=sJ p l i j v:=by
 have hl:=sZ (p:=p) (l:=l) (i:=i) (by omega);have h1:(gV p (l.take i)).take (j+1)=(gV p (l.take i)).take j++[c]:=aW hc
 have h2:(gV p (l.take i)).drop j=c::(gV p (l.take i)).drop (j+1):=by
  have hlt:=aS hc;rw[List.drop_eq_getElem_cons hlt];rw[List.getElem?_eq_getElem hlt]at hc;rw[Option.some.inj hc]
 have h3:((gV p (l.take i)).take j).length=j:=by simp;omega
 rw[sJ,sJ,NZ,NZ,h1,h2];generalize(gV p (l.take i)).take j=A at h3|-
 generalize(gV p (l.take i)).drop (j+1)=B;subst h3;simp
theorem ae1 {p:α->α->Bool}{l:List α}{i j:Nat}{v:α}(h:l[i]?=some v)(hj:j<=i)(h1:∀k c,j<=k->(gV p (l.take i))[k]?=some c->p v c=true)(h2:j=0\/∃c,(gV p (l.take i))[j-1]?=some c/\p v c=false):sJ p l i j v=gV p (l.take (i+1))++l.drop (i+1):=by
 have hi:=aS h;have hl:=sZ (p:=p) (l:=l) (i:=i) (by omega)
 have h3:gV p (l.take (i+1))=eU (p v) (gV p (l.take i)) v:=by
  rw[gV,bC _ _ h];rfl
 have h4:=G8 (p:=p v) (l:=gV p (l.take i)) (k:=j) (by omega) (fun k hk hlt=>h1 k _ hk (List.getElem?_eq_getElem hlt)) h2;rw[h3,sJ,NZ,eU,h4];simp
end
def CY (f:Nat->Nat->Int)(i k:Nat)(m:List (List Int)):List (List Int):=set2 m i k (f i k)
def OU (n:Nat)(f:Nat->Nat->Int)(i:Nat)(m:List (List Int)):List (List Int):=loopN n m (CY f i)
def arO (n:Nat)(f:Nat->Nat->Int):List (List Int):=loopN n (zeros n) (OU n f)
theorem ajT {n i j:Nat}{f:Nat->Nat->Int}{m:List (List Int)}(h:sq2 n m)(hi:i<n):sq2 n (loopN j m (CY f i)):=loopN_inv (fun _ m=>sq2 n m) h fun k m _ hm=>oC hm hi _
theorem axO {n j:Nat}{f:Nat->Nat->Int}(hj:j<=n):sq2 n (loopN j (zeros n) (OU n f)):=loopN_inv (fun _ m=>sq2 n m) (jD n) fun i m hi hm=>ajT hm (by omega)
theorem azH {n:Nat}{f:Nat->Nat->Int}{a b:Nat}(ha:a<n)(hb:b<n):at2 (arO n f) a b=f a b:=by
 have h:=loopN_inv (n:=n) (s:=zeros n) (f:=OU n f) (fun i m=>sq2 n m/\∀a b,a<i->b<n->at2 m a b=f a b) ⟨jD n,fun a b h=>by omega⟩ fun i m hi ⟨h1,h2⟩=>by
  have h3:=loopN_inv (n:=n) (s:=m) (f:=CY f i) (fun k m'=>sq2 n m'/\(∀a b,a<i->b<n->at2 m' a b=f a b)/\∀b,b<k->at2 m' i b=f i b) ⟨h1,h2,fun b h=>by omega⟩ fun k m' hk ⟨h4,h5,h6⟩=>by
   refine⟨oC h4 hi _,fun a b ha hb=> ?_,fun b hb=> ?_⟩
   ·rw[CY,uW h4 hi hk,if_neg (by omega)];exact h5 a b ha hb
   ·rw[CY,uW h4 hi hk];by_cases e:b=k
    ·subst e;simp
    ·rw[if_neg (by omega)];exact h6 b (by omega)
  refine⟨h3.1,fun a b ha hb=> ?_⟩;by_cases e:a=i
  ·subst e;exact h3.2.2 b hb
  ·exact h3.2.1 a b (by omega) hb
 exact h.2 a b ha hb
theorem aqY {m:List (List Int)}{items:List Int}:arO items.length (fun i k=>at2 m (at1 items i).toNat (at1 items k).toNat)=dZ m items:=by
 refine akZ (axO (Nat.le_refl _)) ⟨by simp[dZ],fun r hr=> ?_⟩ fun i k hi hk=> ?_
 ·unfold dZ at hr;rw[List.mem_map]at hr;obtain⟨x,_,rfl⟩:=hr;simp
 ·show at2 (arO items.length _) i k=_;rw[azH hi hk,ab7 hi hk]
def aqG (c:UInt8)(s:Str):Str:=if s.getLast?=some c then s.dropLast else s
theorem aqN (c:UInt8)(s:Str):Lib.trimSuffix s [c]=aqG c s:=by
 unfold Lib.trimSuffix Lib.hasSuffix aqG;rcases List.eq_nil_or_concat s with rfl|⟨t,d,rfl⟩
 ·simp
 ·rw[List.concat_eq_append]
  have e:([c].isSuffixOf (t++[d]))=decide (c=d):=by
   by_cases h:c=d
   ·subst h;simp[List.isSuffixOf_iff_suffix]
   ·have h2:¬[c]<:+t++[d]:=fun hs=>h (by
     obtain⟨p,hp⟩:=hs;have:=congrArg List.getLast? hp;simpa using this)
    have:([c].isSuffixOf (t++[d]))≠true:=fun e=>h2 (List.isSuffixOf_iff_suffix.1 e);simp[h,this]
  rw[e];by_cases h:c=d
  ·subst h;simp
  ·rw[if_neg (by simpa using h),if_neg];simp only[List.getLast?_append,List.getLast?_singleton,Option.some_or,Option.some.injEq];exact fun e=>h e.symm
theorem FP:∀s:Str,Lib.containsAny s [124,59]= !s.all mP
 |[]=>rfl
 |b::l=>by
  have ih:=FP l;unfold Lib.containsAny at ih|-
  have hge:=Lib.indexAny_ge [124,59] l;unfold Lib.indexAny
  have hb:mP b= !(decide (b=124)||decide (b=59)):=by
   unfold mP;have e1:(b.toNat=124)↔b=124:=⟨fun h=>UInt8.toNat_inj.1 h,fun h=>by rw[h];rfl⟩;have e2:(b.toNat=59)↔b=59:=⟨fun h=>UInt8.toNat_inj.1 h,fun h=>by rw[h];rfl⟩;simp only[e1,e2]
  simp only[List.all_cons,hb];by_cases h:b=124\/b=59
  ·rw[if_pos (by simpa using h)];rcases h with h|h<;>simp[h]
  ·have h':b≠124/\b≠59:=⟨fun e=>h (.inl e),fun e=>h (.inr e)⟩;rw[if_neg (by simpa using h')];simp only[h'.1,h'.2,decide_false,Bool.or_self,Bool.not_false,Bool.true_and];rw[←ih];split
   ·rename_i h1;have:Lib.indexAny l [124,59]= -1:=by simpa using h1
    rw[this]
   ·rename_i h1;have:Lib.indexAny l [124,59]≠ -1:=by simpa using h1
    simp;omega
def bef (c:UInt8)(s:Str):Str:=s.takeWhile fun d=>decide (d≠c)
def aft (c:UInt8)(s:Str):Str:=(s.dropWhile fun d=>decide (d≠c)).drop 1
theorem O1 (c:UInt8):∀s:Str,Lib.indexByte s c=if c∈s then((s.takeWhile fun d=>decide (d≠c)).length:Int)else -1
 |[]=>rfl
 |b::l=>by
  unfold Lib.indexByte;rw[O1 c l];by_cases h:b=c
  ·subst h;simp
  ·have hb:¬(b==c)=true:=by simpa using h
   have hmem:c∈b::l↔c∈l:=⟨fun e=>(List.mem_cons.1 e).resolve_left (fun e=>h e.symm),fun e=>List.mem_cons_of_mem _ e⟩;rw[if_neg hb,List.takeWhile_cons_of_pos (by simpa using h)];by_cases hm:c∈l
   ·rw[if_pos hm,if_pos (hmem.2 hm),if_neg (by rw[beq_iff_eq];omega),List.length_cons];omega
   ·rw[if_neg hm,if_neg (fun e=>hm (hmem.1 e))];rfl
theorem QZ {c:UInt8}:∀{s:Str},c∈s->s=bef c s++c::aft c s/\c∉bef c s
 |[],h=>by cases h
 |d::s,h=>by
  by_cases hd:d=c
  ·subst hd;simp[bef,aft]
  ·have ih:=QZ (s:=s) ((List.mem_cons.1 h).resolve_left (fun e=>hd e.symm));unfold bef aft at ih|-
   rw[List.takeWhile_cons_of_pos (by simpa using hd),List.dropWhile_cons_of_pos (by simpa using hd)];refine⟨by rw[List.cons_append,←ih.1],fun hm=> ?_⟩;rcases List.mem_cons.1 hm with e|hm
   ·exact hd e.symm
   ·exact ih.2 hm
theorem aqZ {c:UInt8}{s:Str}(h:c∈s):s.take (s.takeWhile fun d=>decide (d≠c)).length=bef c s/\s.drop ((s.takeWhile fun d=>decide (d≠c)).length+1)=aft c s:=by
 have hs:=(QZ h).1;have hb:(s.takeWhile fun d=>decide (d≠c))=bef c s:=rfl;rw[hb];constructor
 ·conv=>lhs;rw[hs]
  rw[show bef c (bef c s++c::aft c s)=bef c s by rw[←hs]];simp
 ·conv=>lhs;rw[hs]
  rw[show bef c (bef c s++c::aft c s)=bef c s by rw[←hs],List.drop_append,List.drop_of_length_le (by omega),show(bef c s).length+1-(bef c s).length=1 by omega];simp
theorem M8 (c:UInt8):∀(k:Nat) (s:Str),s.count c=k->Lib.replaceK [c] [] k s=s.filter fun d=> !decide (d=c)
 |0,s,h=>by
  have hm:c∉s:=List.count_eq_zero.1 h;unfold Lib.replaceK;symm;rw[List.filter_eq_self];intro d hd;simp;rintro rfl;exact hm hd
 |k+1,s,h=>by
  have hm:c∈s:=List.count_pos_iff.1 (by omega);have ht:=aqZ hm;have hs:=QZ hm;have h2:(bef c s++c::aft c s).count c=k+1:=by rw[←hs.1];exact h
  rw[List.count_append,List.count_eq_zero.2 hs.2,List.count_cons_self]at h2;unfold Lib.replaceK;rw[Lib.index_one,O1,if_pos hm,if_neg (by rw[beq_iff_eq];omega)];simp only[Int.toNat_natCast,List.length_singleton,ht.1,ht.2,List.append_nil];rw[M8 c k (aft c s) (by omega)]
  conv=>rhs;rw[hs.1]
  rw[List.filter_append,List.filter_cons_of_neg (by simp)];congr 1;symm;rw[List.filter_eq_self];intro d hd;simp;rintro rfl;exact hs.2 hd
theorem XQ (c:UInt8)(s:Str):Lib.replaceAll s [c] []=s.filter fun d=> !decide (d=c):=by
 unfold Lib.replaceAll Lib.replace;rw[if_neg (by simp)];have:Lib.replaceNum s [c] (-1)=s.count c:=by unfold Lib.replaceNum;rw[if_pos (.inl (by omega)),Lib.count_one]
 rw[this,M8 c _ s rfl]
theorem auF (s:Str):Z6 s=aqG 32 s:=rfl
def isSp (x:Nat):Bool:=decide (x=32)
def ext(s:Str)(x:Nat×Nat):Str:=(s.drop x.1).take (x.2-x.1)
theorem atX {s:Str}{i:Nat}{c:UInt8}(h:s[i]?=some c)(hc:c.toNat<128):Utf8.decode (⟨s.toArray⟩:ByteArray) i=(c.toNat,1):=by
 have hi:=aS h;rw[List.getElem?_eq_getElem hi]at h;unfold Utf8.decode;simp[ByteArray.get!,hi,Option.some.inj h,hc]
def N7 (s:Str)(pos:Nat):Option Nat->Str
 |none=>[]
 |some a=>(s.drop a).take (pos-a)
theorem spans_eq {s:Str}(hs:∀c∈s,c.toNat<128):∀(f pos:Nat) (st:Option Nat) (acc:List (Nat×Nat)),s.length-pos<=f->pos<=s.length->(∀a,st=some a->a<pos)->
  (Lib.closeSpans ⟨s.toArray⟩ (Lib.spansFromP isSp ⟨s.toArray⟩ f pos st acc)).map (ext s)=acc.map (ext s)++(KL 32 (N7 s pos st) (s.drop pos)).filter fun x=>decide (x≠[])
 |f,pos,st,acc,hf,hp,hst=>by
  have hsz:(⟨s.toArray⟩:ByteArray).size=s.length:=by simp[ByteArray.size]
  by_cases hlt:pos<s.length
  ·cases f with
   |zero=>omega
   |succ f=>
    obtain⟨c,hc⟩:∃c,s[pos]?=some c:=⟨s[pos],by simp[hlt]⟩;have hca:=hs c (List.mem_of_getElem? hc);have hd:=atX hc hca;have hdr:s.drop pos=c::s.drop (pos+1):=by rw[List.drop_eq_getElem_cons hlt];rw[List.getElem?_eq_getElem hlt]at hc;rw[Option.some.inj hc]
    have ih:=fun st acc h=>spans_eq hs f (pos+1) st acc (by omega) (by omega) h;unfold Lib.spansFromP;rw[if_pos (by rw[hsz];exact hlt),hd,hdr];unfold KL
    have hct:isSp c.toNat=true↔c=32:=by
     unfold isSp;rw[decide_eq_true_eq];exact⟨fun e=>UInt8.toNat_inj.1 (by simpa using e),fun e=>by rw[e];rfl⟩
    by_cases h32:c=32
    ·rw[if_pos (hct.2 h32),if_pos h32];cases st with
     |none=>
      simp only;rw[ih none acc (fun a h=>by cases h)];simp[N7]
     |some a=>
      have ha:=hst a rfl;simp only;rw[ih none _ (fun a h=>by cases h)]
      have hne:ext s (a,pos)≠[]:=by
       intro e;have:=congrArg List.length e;simp[ext]at this;omega
      have hcw:N7 s pos (some a)=ext s (a,pos):=rfl;rw[hcw,List.filter_cons_of_pos (by simpa using hne)];simp[N7]
    ·rw[if_neg (fun e=>h32 (hct.1 e)),if_neg h32];cases st with
     |none=>
      simp only;rw[ih (some pos) acc (fun a h=>by cases h;omega)];have:N7 s (pos+1) (some pos)=N7 s pos none++[c]:=by simp[N7,hdr]
      rw[this]
     |some a=>
      have ha:=hst a rfl;simp only;rw[ih (some a) acc (fun b h=>by cases h;omega)]
      have:N7 s (pos+1) (some a)=N7 s pos (some a)++[c]:=by
       simp only[N7];rw[show pos+1-a=pos-a+1 by omega];exact aW (by rw[List.getElem?_drop,show a+(pos-a)=pos by omega];exact hc)
      rw[this]
  ·obtain rfl:pos=s.length:=by omega
   have he:Lib.spansFromP isSp ⟨s.toArray⟩ f s.length st acc=(acc,st):=Lib.spansFromP_end _ _ _ _ _ _ (by rw[hsz];omega);rw[he,List.drop_length];cases st with
   |none=>simp[Lib.closeSpans,N7,KL]
   |some a=>
    have ha:=hst a rfl
    have hne:N7 s s.length (some a)≠[]:=by
     intro e;have:=congrArg List.length e;simp[N7]at this;omega
    simp only[Lib.closeSpans,KL];rw[List.filter_cons_of_pos (by simpa using hne),hsz];simp[ext,N7]
theorem aaG {s:Str}(hs:∀c∈s,c.toNat<128):(Lib.goFieldsP isSp ⟨s.toArray⟩).map (fun b=>b.data.toList)=DD s:=by
 unfold Lib.goFieldsP Lib.spansOfP;have hsz:(⟨s.toArray⟩:ByteArray).size=s.length:=by simp[ByteArray.size]
 have:=spans_eq hs s.length 0 none [] (by omega) (by omega) (fun a h=>by cases h);rw[List.map_map]
 have he:(fun b:ByteArray=>b.data.toList)∘(fun x:Nat×Nat=>(⟨s.toArray⟩:ByteArray).extract x.1 x.2)=ext s:=by
  funext x;simp only[Function.comp_apply,Lib.extract_data,ext]
 rw[he,hsz,this];rfl
def ax9 (c:UInt8):Prop:=48<=c.toNat/\c.toNat<=57
theorem U2 (m:Nat):ax9 (UInt8.ofNat (48+m % 10))/\(UInt8.ofNat (48+m % 10)).toNat=48+m % 10:=by
 have h:(UInt8.ofNat (48+m % 10)).toNat=48+m % 10:=by rw[UInt8.toNat_ofNat'];omega
 exact⟨⟨by omega,by omega⟩,h⟩
theorem YL:∀(m:Nat),∀c∈fA m,ax9 c:=by
 intro m
 induction m using Nat.strongRecOn with
 |ind m ih=>
  intro c hc;by_cases h0:m=0
  ·subst h0;rw[lK]at hc;cases hc
  ·rw[lY h0]at hc;rcases List.mem_append.1 hc with hc|hc
   ·exact ih (m/10) (by omega) c hc
   ·obtain rfl:=List.mem_singleton.1 hc;exact(U2 m).1
theorem aaP {st:Int×Int}{c:UInt8}(h:ax9 c):yQ st c=(st.1*10+(c.toNat-48),st.2+1):=if_pos h
theorem R6 (m:Nat):(fA m).foldl yQ (0,0)=((m:Int),((fA m).length:Int)):=by
 induction m using Nat.strongRecOn with
 |ind m ih=>
  by_cases h0:m=0
  ·subst h0;rw[lK];rfl
  ·rw[lY h0,List.foldl_append,ih (m/10) (by omega),List.foldl_cons,List.foldl_nil,aaP (U2 m).1,(U2 m).2];simp only[List.length_append,List.length_cons,List.length_nil];congr 1
   ·omega
theorem abC {m:Nat}(h:m≠0):fA m≠[]:=by rw[lY h];simp
theorem aoQ {n:Int}(h: -999999999<=n/\n<=999999999):gP (oL n)=true/\fI (oL n)=n:=by
 have hl:=BN n.natAbs 9 (by omega)
 have key:fI (oL n)=n/\(kT (oL n)).2<=9/\(oL n).length<=10:=by
  by_cases h0:n=0
  ·subst h0;decide
  ·by_cases hn:n<0
   ·have hf:oL n=45::fA n.natAbs:=by rw[oL,if_neg h0,if_pos hn];rfl
    have hp:kT (oL n)=((n.natAbs:Int),((fA n.natAbs).length:Int)):=by
     rw[kT,hf,List.take_of_length_le (by simp;omega),List.foldl_cons,show yQ (0,0) 45=(0,0)from if_neg (by decide),R6]
    refine⟨?_,by rw[hp];simp;omega,by rw[hf];simp;omega⟩;rw[fI,if_pos (by rw[hf];rfl),hp];simp only;omega
   ·have hf:oL n=fA n.natAbs:=by rw[oL,if_neg h0,if_neg hn];rfl
    have hp:kT (oL n)=((n.natAbs:Int),((fA n.natAbs).length:Int)):=by
     rw[kT,hf,List.take_of_length_le (by omega),R6]
    refine⟨?_,by rw[hp];simp;omega,by rw[hf];omega⟩;rw[fI,if_neg,hp]
    ·simp only;omega
    ·rw[hf];intro h1;have:=YL _ _ (List.mem_of_getElem? h1);exact absurd this.1 (by decide)
 refine⟨?_,key.1⟩;simp only[gP,Bool.and_eq_true,decide_eq_true_eq];exact⟨⟨key.2.1,key.2.2⟩,by rw[key.1]⟩
theorem u6:∀(s:Str) (st:Int×Int),0<=st.1->st.1<10^st.2.toNat->0<=st.2->0<=(s.foldl yQ st).1/\(s.foldl yQ st).1<10^(s.foldl yQ st).2.toNat/\0<=(s.foldl yQ st).2
 |[],st,h1,h2,h3=>⟨h1,h2,h3⟩
 |c::s,st,h1,h2,h3=>by
  rw[List.foldl_cons];by_cases hc:ax9 c
  ·rw[aaP hc];refine u6 s _ ?_ ?_ ?_
   ·have:=hc.1;simp only;omega
   ·have:=hc.2;simp only;rw[show(st.2+1).toNat=st.2.toNat+1 by omega,Int.pow_succ];have:=hc.1;omega
   ·simp only;omega
  ·rw[show yQ st c=st from if_neg hc];exact u6 s st h1 h2 h3
theorem aoV {s:Str}(h:gP s=true): -999999999<=fI s/\fI s<=999999999:=by
 simp only[gP,Bool.and_eq_true,decide_eq_true_eq]at h;have hp:=u6 (s.take 11) (0,0) (by simp) (by simp) (by simp);have hk:(kT s).2.toNat<=9:=by omega
 have h10:(10:Int)^(kT s).2.toNat<=1000000000:=by
  have h1:(10:Nat)^(kT s).2.toNat<=10^9:=Nat.pow_le_pow_right (by omega) hk;have h2:((10^(kT s).2.toNat:Nat):Int)<=((10^9:Nat):Int):=by exact_mod_cast h1
  simpa using h2
 have h5:0<=(kT s).1/\(kT s).1<10^(kT s).2.toNat:=⟨hp.1,hp.2.1⟩;unfold fI;split<;>omega
theorem decDigits_eq (u:Nat):Lib.decDigits u=if u=0 then[48]else fA u:=by
 induction u using Nat.strongRecOn with
 |ind u ih=>
  rw[Lib.decDigits];split
  ·rename_i h;by_cases h0:u=0
   ·subst h0;rfl
   ·rw[if_neg h0,lY h0,show u/10=0 by omega,lK,Nat.mod_eq_of_lt h];rfl
  ·rename_i h;rw[ih (u/10) (by omega),if_neg (by omega),if_neg (by omega),lY (m:=u) (by omega)]
theorem ax0 (n:Int):Lib.itoa n=oL n:=by
 unfold Lib.itoa oL;by_cases h0:n=0
 ·subst h0;rw[if_neg (by omega),if_pos rfl,decDigits_eq];rfl
 ·rw[if_neg h0];by_cases hn:n<0
  ·rw[if_pos hn,if_pos hn,decDigits_eq,if_neg (by omega)];rfl
  ·rw[if_neg hn,if_neg hn,decDigits_eq,if_neg (by omega),show n.toNat=n.natAbs by omega];rfl
theorem OE:∀(l:Str) (acc n:Nat) (m:Nat),Lib.decFrom acc l=some n->Lib.decFrom acc (l++[UInt8.ofNat (48+m % 10)])=some (n*10+m % 10)
 |[],acc,n,m,h=>by
  obtain rfl:acc=n:=by simpa[Lib.decFrom]using h
  have hd:=(U2 m).2
  have hv:Lib.digitVal (UInt8.ofNat (48+m % 10))=some (m % 10):=by
   unfold Lib.digitVal;rw[hd,if_pos (by omega)];congr 1;omega
  simp only[List.nil_append,Lib.decFrom,hv]
 |c::l,acc,n,m,h=>by
  simp only[List.cons_append,Lib.decFrom]at h|-
  cases hc:Lib.digitVal c with
  |none=>rw[hc]at h;cases h
  |some d=>rw[hc]at h;exact OE l _ n m h
theorem WX (u:Nat):Lib.decFrom 0 (fA u)=some u:=by
 induction u using Nat.strongRecOn with
 |ind u ih=>
  by_cases h0:u=0
  ·subst h0;rw[lK];rfl
  ·rw[lY h0,OE _ _ _ u (ih (u/10) (by omega))];congr 1;omega
theorem J4 {u:Nat}(h:u≠0):Lib.decNat (fA u)=some u:=by
 unfold Lib.decNat;rw[if_neg (by simpa using abC h),WX]
theorem atZ {n:Int}(h: -999999999<=n/\n<=999999999):Lib.atoiAll (oL n)= .ok n:=by
 have hl:=BN n.natAbs 9 (by omega)
 have hlen:(oL n).length<=18:=by
  unfold oL;split
  ·simp
  ·rw[List.length_append];split<;>simp<;>omega
 rw[Lib.atoiAll_short _ hlen]
 have:Lib.atoi (oL n)=some n:=by
  by_cases h0:n=0
  ·subst h0;rfl
  ·by_cases hn:n<0
   ·have hf:oL n=45::fA n.natAbs:=by rw[oL,if_neg h0,if_pos hn];rfl
    rw[hf,Lib.atoi,if_pos (by rfl),J4 (by omega),Option.map_some];congr 1;omega
   ·have hf:oL n=fA n.natAbs:=by rw[oL,if_neg h0,if_neg hn];rfl
    rw[hf];have hd:=J4 (u:=n.natAbs) (by omega);cases hx:fA n.natAbs with
    |nil=>exact absurd hx (abC (by omega))
    |cons c r=>
     have hc:=YL n.natAbs c (by rw[hx];simp);have h1:¬(c==45)=true:=fun e=>absurd ((show c=45 by simpa using e)▸hc).1 (by decide);have h2:¬(c==43)=true:=fun e=>absurd ((show c=43 by simpa using e)▸hc).1 (by decide);rw[Lib.atoi,if_neg h1,if_neg h2,←hx,hd,Option.map_some];congr 1;omega
 rw[this];rfl
end Go.Pl
end
section
namespace Go.Proofs.YtnglphdfhegnmaaGreatDoor
open Go.Dv Go.Pl Go.Proofs.Tryz
def OW (k:Int):Str:=109::(if k<=0 then[48]else fA k.natAbs)
theorem RO (k:Int)(hk:k<=9000000000000000000):Fk 177 [dI k] (.val (dS (OW k))):=by
 refine fE good [] func177 ntmps177 fun w0 ow0=> ?_;simp[go_sem];refine gw (fun e=> ?_) (fun e=> ?_)
 ·have hr:OW k=[109,48]:=by rw[OW,if_pos e]
  simp[go_sem,hr]
 ·simp at e;simp[go_sem];refine wl good (fun(x':(Int)×(Str))=>match x' with|(j,s)=>[(0,.val (dI j)),(3,.val (dS s))]) (fun(x':(Int)×(Str))=>match x' with|(j,s)=>j.toNat) (fun(x':(Int)×(Str))=>match x' with|(j,s)=>(0<=j/\j<=k)/\(fA j.natAbs++s=fA k.natAbs)) ((k,[])) ⟨(by omega),(by simp)⟩ ?_;rintro⟨j,s⟩ ⟨h0,h1⟩;have hlen:s.length<=19:=by have h3:=congrArg List.length h1;have h4:=BN k.natAbs 19 (by rw[show(10:Nat)^19=10000000000000000000 by rfl];omega);simp only[List.length_append]at h3;omega
  simp[go_sem];refine gw (fun a=> ?_) (fun a=> ?_)
  ·have ht:j.tmod 10=(j.natAbs % 10:Nat):=by rw[Int.tmod_eq_emod_of_nonneg (by omega)];omega
   have hq:j.tdiv 10=(j.natAbs/10:Nat):=by rw[Int.tdiv_eq_ediv_of_nonneg (by omega)];omega
   have hdec:=lY (m:=j.natAbs) (by omega);obtain⟨c,hc⟩:∃c:UInt8,c=UInt8.ofNat (48+j.natAbs % 10):=⟨_,rfl⟩;have hu8:(48+(j.natAbs:Int) % 10) % 256=(c.toNat:Int):=by rw[hc,UInt8.toNat_ofNat'];omega
   have hu9:IntKind.u8.wrap (48+(j.natAbs:Int) % 10)=(c.toNat:Int):=by rw[←hu8];simp[IntKind.wrap,IntKind.bits,IntKind.signed]
   have hnt:(j.natAbs:Int)=j:=by omega
   simp[go_sem,ht,hq,hu9];iterate 3 refine ai ?_
   refine nx ((j.natAbs/10:Nat),c::s) ⟨(by omega),(by rw[Int.natAbs_natCast,←h1,hdec,hc];simp)⟩
  ·simp at a;have hj:j=0:=by omega
   rw[hj]at h1;have hs:s=fA k.natAbs:=by simpa[lK]using h1
   have hr:OW k=109::s:=by rw[OW,if_neg (by omega),hs]
   simp[go_sem,hr];omega
def KR (l:List Str)(k:Int)(i:Nat):List Str:=(List.range i).map (fun j:Nat=>OW (k+(j:Int)))++l.drop i
theorem arI {l:List Str}{k:Int}{i:Nat}(h:i<=l.length):(KR l k i).length=l.length:=by simp[KR];omega
theorem auM {l:List Str}{k:Int}{i:Nat}(h:i<l.length):(KR l k i)[i]?=l[i]?:=by
 unfold KR;rw[List.getElem?_append_right (by simp)];simp
theorem avG {l:List Str}{k:Int}{i:Nat}(h:i<l.length):(KR l k i).set i (OW (k+i))=KR l k (i+1):=by
 unfold KR;rw[List.set_append,if_neg (by simp),List.length_map,List.length_range,Nat.sub_self,List.drop_eq_getElem_cons h,List.set_cons_zero,List.range_succ,List.map_append];simp
theorem ao0 (l:List Str)(k:Int):KR l k 0=l:=by simp[KR]
def marksS (n:Nat)(k:Int):List Str:=(List.range n).map fun j:Nat=>OW (k+(j:Int))
theorem asK (l:List Str)(k:Int):KR l k l.length=marksS l.length k:=by simp[KR,marksS]
theorem JV (l:List Str)(k:Int)(hl:l.length<=1048576)(hk:0<=k/\k<=1000000000000000):zX prog 105 [.one (.bool false),dI k] 0 (oG l) (fun r d=>r= .val (dI (k+l.length))/\d=oG (marksS l.length k)):=by
 refine fM good [] func105 ntmps105 fun w0 ow0 v0=> ?_;have hz:=ao0 l k;rw[show oG l=oG (KR l k 0) by rw[hz]];simp[go_sem];refine wl good (fun(i:Nat)=>[(0,.own (oG (KR l k i))),(1,.val (dI (k+i))),(5,.val (dI i))]) (fun(i:Nat)=>l.length-i) (fun(i:Nat)=>(i<=l.length)) (0) (by omega) ?_;rintro i h1;have hml:=arI (k:=k) h1;simp[go_sem,hml];refine gw (fun a=> ?_) (fun a=> ?_)
 ·obtain⟨c,hc⟩:=aC (l:=l) (i:=i) (by omega);have hg:=auM (k:=k) (l:=l) (i:=i) (by omega);rw[hc]at hg;have hst:((KR l k i).map dS).set i (dS (OW (k+i)))=(KR l k (i+1)).map dS:=by rw[←List.map_set,avG (by omega)]
  simp[go_sem];refine ck (RO (k+i) (by omega)) ?_;have hadd:k+(i:Int)+1=k+((i:Int)+1):=by omega
  simp[go_sem,hg,hst,hadd];iterate 2 refine ai ?_
  refine nx (i+1) (by first|omega|(simp;omega)|grind)
 ·simp at a;obtain rfl:i=l.length:=by omega
  have hfa:=asK l k;simp[go_sem,hfa]
def mM (n:Nat)(k:Int):List Int:=(List.range n).map fun j:Nat=>k+(j:Int)
def MH (l:List Int)(k:Int)(i:Nat):List Int:=mM i k++l.drop i
theorem ai6 (n:Nat)(k:Int):(mM n k).length=n:=by simp[mM]
theorem ajQ {n:Nat}{k:Int}{i:Nat}(h:i<n):(mM n k)[i]?=some (k+i):=by simp[mM,h]
theorem aq2 {l:List Int}{k:Int}{i:Nat}(h:i<=l.length):(MH l k i).length=l.length:=by simp[MH,mM];omega
theorem aqD {l:List Int}{k:Int}{i:Nat}(h:i<l.length):(MH l k i)[i]?=l[i]?:=by
 unfold MH mM;rw[List.getElem?_append_right (by simp)];simp
theorem ap7 {l:List Int}{k:Int}{i:Nat}(h:i<l.length):(MH l k i).set i (k+i)=MH l k (i+1):=by
 unfold MH mM;rw[List.set_append,if_neg (by simp),List.length_map,List.length_range,Nat.sub_self,List.drop_eq_getElem_cons h,List.set_cons_zero,List.range_succ,List.map_append];simp
theorem aoL (l:List Int)(k:Int):MH l k 0=l:=by simp[MH,mM]
theorem avN (l:List Int)(k:Int):MH l k l.length=mM l.length k:=by simp[MH]
theorem tJ (l:List Int)(k:Int)(hl:l.length<=1048576)(hk:0<=k/\k<=1000000000000000):zX prog 48 [.one (.bool false),dI k] 0 (aD l) (fun r d=>r= .val (dI (k+l.length))/\d=aD (mM l.length k)):=by
 refine fM good [] func48 ntmps48 fun w0 ow0 v0=> ?_;have hz:=aoL l k;rw[show aD l=aD (MH l k 0) by rw[hz]];simp[go_sem];refine wl good (fun(i:Nat)=>[(0,.own (aD (MH l k i))),(1,.val (dI (k+i))),(5,.val (dI i))]) (fun(i:Nat)=>l.length-i) (fun(i:Nat)=>(i<=l.length)) (0) (by omega) ?_;rintro i h1;have hml:=aq2 (k:=k) h1;simp[go_sem,hml];refine gw (fun a=> ?_) (fun a=> ?_)
 ·obtain⟨c,hc⟩:=aC (l:=l) (i:=i) (by omega);have hg:=aqD (k:=k) (l:=l) (i:=i) (by omega);rw[hc]at hg;have hst:((MH l k i).map dI).set i (dI (k+i))=(MH l k (i+1)).map dI:=by rw[←List.map_set,ap7 (by omega)]
  have hadd:k+(i:Int)+1=k+((i:Int)+1):=by omega
  simp[go_sem,hg,hst,hadd];iterate 2 refine ai ?_
  refine nx (i+1) (by first|omega|(simp;omega)|grind)
 ·simp at a;obtain rfl:i=l.length:=by omega
  have hfa:=avN l k;simp[go_sem,hfa]
theorem Q7 (n:Nat)(k:Int)(hn:n<=1048576)(hk:0<=k/\k<=1000000000000000):Fk 50 [nInts (mM n k),dI k] (.val (dI (k+n))):=by
 refine fE good [] func50 ntmps50 fun w0 ow0=> ?_;have hml:=ai6 n k;simp[go_sem];refine wl good (fun(i:Nat)=>[(0,.val (nInts (mM n k))),(1,.val (dI (k+i))),(5,.val (dI i))]) (fun(i:Nat)=>n-i) (fun(i:Nat)=>(i<=n)) (0) (by omega) ?_;rintro i h1;simp[go_sem,hml];refine gw (fun a=> ?_) (fun a=> ?_)
 ·have hg:=ajQ (k:=k) (show i<n by omega);have hadd:k+(i:Int)+1=k+((i:Int)+1):=by omega
  simp[go_sem,hg,hadd];iterate 2 refine ai ?_
  refine nx (i+1) (by first|omega|(simp;omega)|grind)
 ·simp at a;obtain rfl:i=n:=by omega
  simp[go_sem]
def dR (m:List (List Int)):Int:=(m.map fun r=>(r.length:Int)).sum
def qQ:List (List Int)->Int->List (List Int)
 |[],_=>[]
 |r::m,k=>mM r.length k::qQ m (k+r.length)
theorem AJ:∀(m:List (List Int)) (k:Int),(qQ m k).length=m.length
 |[],_=>rfl
 |r::m,k=>by simp[qQ,AJ m]
theorem OP {m:List (List Int)}{i:Nat}{c:List Int}(h:m[i]?=some c):dR (m.take (i+1))=dR (m.take i)+c.length:=by unfold dR;rw[nC _ h];simp
theorem ZU:∀(m:List (List Int)) (k:Int) (c:List Int),qQ (m++[c]) k=qQ m k++[mM c.length (k+dR m)]
 |[],k,c=>by simp[qQ,dR]
 |r::m,k,c=>by
  simp only[List.cons_append,qQ,ZU m];simp[dR,Int.add_assoc]
theorem aa3:∀{m:List (List Int)}{k:Int}{i:Nat}{c:List Int},m[i]?=some c->(qQ m k)[i]?=some (mM c.length (k+dR (m.take i)))
 |r::m,k,0,c,h=>by
  obtain rfl:=Option.some.inj h;simp[qQ,dR]
 |r::m,k,i+1,c,h=>by
  have:=aa3 (m:=m) (k:=k+r.length) (i:=i) (c:=c) (by simpa using h);simp only[qQ,List.getElem?_cons_succ,this];simp[dR,Int.add_assoc]
theorem MB {m:List (List Int)}(hs:∀r∈m,r.length<=1048576):0<=dR m/\dR m<=1048576*m.length:=by
 induction m with
 |nil=>simp[dR]
 |cons r m ih=>
  have h1:=ih (fun x hx=>hs x (List.mem_cons_of_mem _ hx));have h2:=hs r List.mem_cons_self;simp only[dR,List.map_cons,List.sum_cons,List.length_cons]at h1|-
  omega
theorem yO (m:List (List Int))(k:Int)(hn:m.length<=16)(hs:∀r∈m,r.length<=1048576)(hk:0<=k/\k<=100000000000):Fk 18 [aL (qQ m k),dI k] (.val (dI (k+dR m))):=by
 refine fE good [] func18 ntmps18 fun w0 ow0=> ?_;have hml:=AJ m k;have hr0:dR []=0:=rfl;simp[go_sem];refine wl good (fun(i:Nat)=>[(0,.val (aL (qQ m k))),(1,.val (dI (k+dR (m.take i)))),(5,.val (dI i))]) (fun(i:Nat)=>m.length-i) (fun(i:Nat)=>(i<=m.length)) (0) (by omega) ?_ (h0:=by simp[go_sem,hml,hr0]);rintro i h1;simp[go_sem,hml];refine gw (fun a=> ?_) (fun a=> ?_)
 ·obtain⟨c,hc⟩:=aC (l:=m) (i:=i) (by omega);have hg:=aa3 (k:=k) hc;have hcl:=hs c (List.mem_of_getElem? hc);have hrs:=MB (m:=m.take i) (fun r hr=>hs r (List.mem_of_mem_take hr));have htl:(m.take i).length<=16:=by simp;omega
  have hsn:=OP hc;have hadd:k+dR (m.take i)+(c.length:Int)=k+dR (m.take (i+1)):=by omega
  have hnn:¬k+dR (m.take (i+1))<0:=by omega
  simp[go_sem,hg];refine ck (Q7 c.length (k+dR (m.take i)) hcl (by omega)) ?_;simp[go_sem,hadd,hnn];refine ai ?_;refine nx (i+1) (by omega)
 ·simp at a;obtain rfl:i=m.length:=by omega
  have hta:m.take m.length=m:=List.take_length;simp[go_sem,hta]
end Go.Proofs.YtnglphdfhegnmaaGreatDoor
end
