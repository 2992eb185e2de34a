/- Lemmas and walks that the law leans on, part V3. No condition. -/
import Derived.ChangeArms
import Derived.ChangeShapes
import Derived.Lib.SlicesCompact
import Derived.Sort.Walk0
import Derived.Lib.IndexAny
import Derived.Lib.Strings
import Derived.Lib.IndexMore
import Derived.Lib.Replace
import Derived.Lib.IndexBytes
import Derived.Lib.FieldsP
import Derived.Lib.AtoiTie
import Derived.Test.YtebopbncplpdgaaGreatDoorV2
set_option linter.unusedVariables false
set_option linter.defProp false
set_option linter.unusedSimpArgs false
set_option linter.unusedSectionVars false
set_option maxRecDepth 10000
set_option maxHeartbeats 1000000
section
namespace Go.Proofs.YtebopbncplpdgaaGreatDoor
open Go.Dv Go.Proofs.Tryz
def TB:L1:=[0,1,2,3,0,1,2, -1,0,2,2,4,5,5,0,1,2,6,2,3,0,1, -1,2,0,2]
def D9 (w:World):Prop:=Lib.TabIs prog w "internal/strconv.uint64pow10" .u64 Lib.pow10Tab/\(∃tp p,w.var? prog "strconv.ErrSyntax" =some #[.iface tp p])/\(∃tp p,w.var? prog "strconv.ErrRange" =some #[.iface tp p])/\(∃m,w.cell? ⟨1,0,none⟩=some (.int .i64 m))/\w.var? prog "loop.example/g01923/impl.soundCodes" =some (TB.map fun k=>Value.int .i64 k).toArray
instance:lL:=⟨fun gl=>∀w:World,(∀p∈gl,w.heap[p.1]?=some p.2)->D9 w⟩
def OV {w:World}{ow:Own}(h:Laid w ow):D9 w:=by
 obtain⟨gl,h1,h2⟩:=h;exact h1 w fun p hp=>(h2 p hp).1
def T:TypeId->TyE:=aE4 [(1000014,1000),(1000015,0),(1000020,0),(1000027,1000),(1000033,0),(1000053,1000),(1000054,1000),(1000055,1000),(1000056,0),(1000122,1000),(1000123,1000),(1000124,0),(1000126,0),(1000192,0),(1000200,0),(1000201,0),(1000278,0),(1000282,0),(1000294,1000),(1000298,0),(1000300,0),(1000301,0),(1000322,0),(1000361,0),(1000364,0),(1000381,0),(1000415,0),(1000421,0),(1000435,999),(1000437,999),(1000438,999),(1000482,999)] [(3,⟨.int .i64,1,.one (.int .i64 0)⟩),
 (4,⟨.bool,1,.one (.bool false)⟩),
 (5,⟨.int .u8,1,.one (.int .u8 0)⟩),
 (9,⟨.str,1,.one (.string {data:= #[]})⟩),
 (22,⟨.sl 223,1,.sl (some 223) []⟩),
 (24,⟨.agg [(0,22)],1,.agg [.sl (some 223) []]⟩),
 (25,⟨.sl 3,1,.sl (some 3) []⟩),
 (27,⟨.agg [(0,25),(1,3)],2,.agg [.sl (some 3) [],.one (.int .i64 0)]⟩),
 (29,⟨.agg [(0,24),(1,27),(3,25)],4,.agg [.agg [.sl (some 223) []],.agg [.sl (some 3) [],.one (.int .i64 0)],.sl (some 3) []]⟩),
 (30,⟨.sl 65,1,.sl (some 65) []⟩),
 (31,⟨.sl 138,1,.sl (some 138) []⟩),
 (33,⟨.agg [(0,3),(1,30),(2,31)],3,.agg [.one (.int .i64 0),.sl (some 65) [],.sl (some 138) []]⟩),
 (34,⟨.sl 122,1,.sl (some 122) []⟩),
 (36,⟨.agg [(0,29),(4,33),(7,34),(8,3),(9,31)],10,.agg [.agg [.agg [.sl (some 223) []],.agg [.sl (some 3) [],.one (.int .i64 0)],.sl (some 3) []],.agg [.one (.int .i64 0),.sl (some 65) [],.sl (some 138) []],.sl (some 122) [],.one (.int .i64 0),.sl (some 138) []]⟩),
 (38,⟨.sl 68,1,.sl (some 68) []⟩),
 (40,⟨.sl 207,1,.sl (some 207) []⟩),
 (42,⟨.agg [(0,40)],1,.agg [.sl (some 207) []]⟩),
 (43,⟨.agg [(0,25),(1,3)],2,.agg [.sl (some 3) [],.one (.int .i64 0)]⟩),
 (45,⟨.agg [(0,42),(1,43),(3,25)],4,.agg [.agg [.sl (some 207) []],.agg [.sl (some 3) [],.one (.int .i64 0)],.sl (some 3) []]⟩),
 (46,⟨.sl 129,1,.sl (some 129) []⟩),
 (48,⟨.agg [(0,3),(1,38),(2,46)],3,.agg [.one (.int .i64 0),.sl (some 68) [],.sl (some 129) []]⟩),
 (49,⟨.sl 90,1,.sl (some 90) []⟩),
 (51,⟨.agg [(0,45),(4,48),(7,49),(8,3),(9,46)],10,.agg [.agg [.agg [.sl (some 207) []],.agg [.sl (some 3) [],.one (.int .i64 0)],.sl (some 3) []],.agg [.one (.int .i64 0),.sl (some 68) [],.sl (some 129) []],.sl (some 90) [],.one (.int .i64 0),.sl (some 129) []]⟩),
 (58,⟨.sl 104,1,.sl (some 104) []⟩),
 (63,⟨.sl 9,1,.sl (some 9) []⟩),
 (65,⟨.agg [(0,3),(1,3),(2,3),(3,63)],4,.agg [.one (.int .i64 0),.one (.int .i64 0),.one (.int .i64 0),.sl (some 9) []]⟩),
 (68,⟨.agg [(0,3),(1,3),(2,3),(3,63)],4,.agg [.one (.int .i64 0),.one (.int .i64 0),.one (.int .i64 0),.sl (some 9) []]⟩),
 (90,⟨.agg [(0,3),(1,25)],2,.agg [.one (.int .i64 0),.sl (some 3) []]⟩),
 (104,⟨.agg [(0,3),(1,3)],2,.agg [.one (.int .i64 0),.one (.int .i64 0)]⟩),
 (122,⟨.agg [(0,3),(1,25)],2,.agg [.one (.int .i64 0),.sl (some 3) []]⟩),
 (123,⟨.sl 25,1,.sl (some 25) []⟩),
 (129,⟨.agg [(0,3),(1,3),(2,4),(3,3)],4,.agg [.one (.int .i64 0),.one (.int .i64 0),.one (.bool false),.one (.int .i64 0)]⟩),
 (138,⟨.agg [(0,3),(1,3),(2,4),(3,3)],4,.agg [.one (.int .i64 0),.one (.int .i64 0),.one (.bool false),.one (.int .i64 0)]⟩),
 (173,⟨.sl 5,1,.sl (some 5) []⟩),
 (179,⟨.sl 232,1,.sl (some 232) []⟩),
 (182,⟨.agg [(0,25),(1,3),(2,4),(3,3)],4,.agg [.sl (some 3) [],.one (.int .i64 0),.one (.bool false),.one (.int .i64 0)]⟩),
 (197,⟨.int .u64,1,.one (.int .u64 0)⟩),
 (205,⟨.sl 250,1,.sl (some 250) []⟩),
 (207,⟨.agg [(0,205)],1,.agg [.sl (some 250) []]⟩),
 (221,⟨.sl 365,1,.sl (some 365) []⟩),
 (223,⟨.agg [(0,221)],1,.agg [.sl (some 365) []]⟩),
 (232,⟨.agg [(0,3),(1,3),(2,4)],3,.agg [.one (.int .i64 0),.one (.int .i64 0),.one (.bool false)]⟩),
 (246,⟨.sl 307,1,.sl (some 307) []⟩),
 (250,⟨.agg [(0,3),(1,3),(2,4)],3,.agg [.one (.int .i64 0),.one (.int .i64 0),.one (.bool false)]⟩),
 (257,⟨.arr 400 3,400,.agg (List.replicate 400 (.one (.int .i64 0)))⟩),
 (263,⟨.int .i64,1,.one (.int .i64 0)⟩),
 (291,⟨.agg [(0,123),(1,179),(2,25),(3,3),(4,3)],5,.agg [.sl (some 25) [],.sl (some 232) [],.sl (some 3) [],.one (.int .i64 0),.one (.int .i64 0)]⟩),
 (295,⟨.sl 297,1,.sl (some 297) []⟩),
 (297,⟨.sl 4,1,.sl (some 4) []⟩),
 (300,⟨.agg [(0,3),(1,3),(2,3)],3,.agg [.one (.int .i64 0),.one (.int .i64 0),.one (.int .i64 0)]⟩),
 (307,⟨.agg [(0,3),(1,3),(2,3),(3,3)],4,.agg [.one (.int .i64 0),.one (.int .i64 0),.one (.int .i64 0),.one (.int .i64 0)]⟩),
 (317,⟨.arr 2 3,2,.agg (List.replicate 2 (.one (.int .i64 0)))⟩),
 (318,⟨.arr 3 317,6,.agg (List.replicate 3 (.agg (List.replicate 2 (.one (.int .i64 0)))))⟩),
 (346,⟨.ifc,1,.one .nilIface⟩),
 (353,⟨.fn,1,.one .nilFunc⟩),
 (365,⟨.agg [(0,3),(1,3),(2,4)],3,.agg [.one (.int .i64 0),.one (.int .i64 0),.one (.bool false)]⟩),
 (376,⟨.fn,1,.one .nilFunc⟩),
 (397,⟨.fn,1,.one .nilFunc⟩)]
set_option maxRecDepth 10000 in
def good:∀t,Dv.Good prog T t:=ayA
 ⟨⟨underlying3,t3,_,type3,rfl,rfl,rfl,rfl,by simp[Ty.isAgg],by decide,rfl⟩,
 ⟨underlying4,t4,_,type4,rfl,rfl,rfl,rfl,by simp[Ty.isAgg],by decide,rfl⟩,
 ⟨underlying5,t5,_,type5,rfl,rfl,rfl,rfl,by simp[Ty.isAgg],by decide,rfl⟩,
 ⟨underlying9,t9,_,type9,rfl,rfl,rfl,rfl,by simp[Ty.isAgg],by decide,rfl⟩,
 ⟨underlying22,t22,_,type22,rfl,rfl,rfl,rfl,by simp[Ty.isAgg],by decide,rfl⟩,
 ⟨⟨_,underlying24,rfl,lW.mem ⟨⟨by decide,t22,type22,by decide⟩,trivial⟩,stoodInHeld24⟩,t24,_,type24,rfl,rfl,rfl,rfl,by simp[Ty.isAgg],by decide,rfl⟩,
 ⟨underlying25,t25,_,type25,rfl,rfl,rfl,rfl,by simp[Ty.isAgg],by decide,rfl⟩,
 ⟨⟨_,underlying27,rfl,lW.mem ⟨⟨by decide,t25,type25,by decide⟩,⟨by decide,t3,type3,by decide⟩,trivial⟩,stoodInHeld27⟩,t27,_,type27,rfl,rfl,rfl,rfl,by simp[Ty.isAgg],by decide,rfl⟩,
 ⟨⟨_,underlying29,rfl,lW.mem ⟨⟨by decide,t24,type24,by decide⟩,⟨by decide,t27,type27,by decide⟩,⟨by decide,t25,type25,by decide⟩,trivial⟩,stoodInHeld29⟩,t29,_,type29,rfl,rfl,rfl,rfl,by simp[Ty.isAgg],by decide,rfl⟩,
 ⟨underlying30,t30,_,type30,rfl,rfl,rfl,rfl,by simp[Ty.isAgg],by decide,rfl⟩,
 ⟨underlying31,t31,_,type31,rfl,rfl,rfl,rfl,by simp[Ty.isAgg],by decide,rfl⟩,
 ⟨⟨_,underlying33,rfl,lW.mem ⟨⟨by decide,t3,type3,by decide⟩,⟨by decide,t30,type30,by decide⟩,⟨by decide,t31,type31,by decide⟩,trivial⟩,stoodInHeld33⟩,t33,_,type33,rfl,rfl,rfl,rfl,by simp[Ty.isAgg],by decide,rfl⟩,
 ⟨underlying34,t34,_,type34,rfl,rfl,rfl,rfl,by simp[Ty.isAgg],by decide,rfl⟩,
 ⟨⟨_,underlying36,rfl,lW.mem ⟨⟨by decide,t29,type29,by decide⟩,⟨by decide,t33,type33,by decide⟩,⟨by decide,t34,type34,by decide⟩,⟨by decide,t3,type3,by decide⟩,⟨by decide,t31,type31,by decide⟩,trivial⟩,stoodInHeld36⟩,t36,_,type36,rfl,rfl,rfl,rfl,by simp[Ty.isAgg],by decide,rfl⟩,
 ⟨underlying38,t38,_,type38,rfl,rfl,rfl,rfl,by simp[Ty.isAgg],by decide,rfl⟩,
 ⟨underlying40,t40,_,type40,rfl,rfl,rfl,rfl,by simp[Ty.isAgg],by decide,rfl⟩,
 ⟨⟨_,underlying42,rfl,lW.mem ⟨⟨by decide,t40,type40,by decide⟩,trivial⟩,stoodInHeld42⟩,t42,_,type42,rfl,rfl,rfl,rfl,by simp[Ty.isAgg],by decide,rfl⟩,
 ⟨⟨_,underlying43,rfl,lW.mem ⟨⟨by decide,t25,type25,by decide⟩,⟨by decide,t3,type3,by decide⟩,trivial⟩,stoodInHeld43⟩,t43,_,type43,rfl,rfl,rfl,rfl,by simp[Ty.isAgg],by decide,rfl⟩,
 ⟨⟨_,underlying45,rfl,lW.mem ⟨⟨by decide,t42,type42,by decide⟩,⟨by decide,t43,type43,by decide⟩,⟨by decide,t25,type25,by decide⟩,trivial⟩,stoodInHeld45⟩,t45,_,type45,rfl,rfl,rfl,rfl,by simp[Ty.isAgg],by decide,rfl⟩,
 ⟨underlying46,t46,_,type46,rfl,rfl,rfl,rfl,by simp[Ty.isAgg],by decide,rfl⟩,
 ⟨⟨_,underlying48,rfl,lW.mem ⟨⟨by decide,t3,type3,by decide⟩,⟨by decide,t38,type38,by decide⟩,⟨by decide,t46,type46,by decide⟩,trivial⟩,stoodInHeld48⟩,t48,_,type48,rfl,rfl,rfl,rfl,by simp[Ty.isAgg],by decide,rfl⟩,
 ⟨underlying49,t49,_,type49,rfl,rfl,rfl,rfl,by simp[Ty.isAgg],by decide,rfl⟩,
 ⟨⟨_,underlying51,rfl,lW.mem ⟨⟨by decide,t45,type45,by decide⟩,⟨by decide,t48,type48,by decide⟩,⟨by decide,t49,type49,by decide⟩,⟨by decide,t3,type3,by decide⟩,⟨by decide,t46,type46,by decide⟩,trivial⟩,stoodInHeld51⟩,t51,_,type51,rfl,rfl,rfl,rfl,by simp[Ty.isAgg],by decide,rfl⟩,
 ⟨underlying58,t58,_,type58,rfl,rfl,rfl,rfl,by simp[Ty.isAgg],by decide,rfl⟩,
 ⟨underlying63,t63,_,type63,rfl,rfl,rfl,rfl,by simp[Ty.isAgg],by decide,rfl⟩,
 ⟨⟨_,underlying65,rfl,lW.mem ⟨⟨by decide,t3,type3,by decide⟩,⟨by decide,t3,type3,by decide⟩,⟨by decide,t3,type3,by decide⟩,⟨by decide,t63,type63,by decide⟩,trivial⟩,stoodInHeld65⟩,t65,_,type65,rfl,rfl,rfl,rfl,by simp[Ty.isAgg],by decide,rfl⟩,
 ⟨⟨_,underlying68,rfl,lW.mem ⟨⟨by decide,t3,type3,by decide⟩,⟨by decide,t3,type3,by decide⟩,⟨by decide,t3,type3,by decide⟩,⟨by decide,t63,type63,by decide⟩,trivial⟩,stoodInHeld68⟩,t68,_,type68,rfl,rfl,rfl,rfl,by simp[Ty.isAgg],by decide,rfl⟩,
 ⟨⟨_,underlying90,rfl,lW.mem ⟨⟨by decide,t3,type3,by decide⟩,⟨by decide,t25,type25,by decide⟩,trivial⟩,stoodInHeld90⟩,t90,_,type90,rfl,rfl,rfl,rfl,by simp[Ty.isAgg],by decide,rfl⟩,
 ⟨⟨_,underlying104,rfl,lW.mem ⟨⟨by decide,t3,type3,by decide⟩,⟨by decide,t3,type3,by decide⟩,trivial⟩,stoodInHeld104⟩,t104,_,type104,rfl,rfl,rfl,rfl,by simp[Ty.isAgg],by decide,rfl⟩,
 ⟨⟨_,underlying122,rfl,lW.mem ⟨⟨by decide,t3,type3,by decide⟩,⟨by decide,t25,type25,by decide⟩,trivial⟩,stoodInHeld122⟩,t122,_,type122,rfl,rfl,rfl,rfl,by simp[Ty.isAgg],by decide,rfl⟩,
 ⟨underlying123,t123,_,type123,rfl,rfl,rfl,rfl,by simp[Ty.isAgg],by decide,rfl⟩,
 ⟨⟨_,underlying129,rfl,lW.mem ⟨⟨by decide,t3,type3,by decide⟩,⟨by decide,t3,type3,by decide⟩,⟨by decide,t4,type4,by decide⟩,⟨by decide,t3,type3,by decide⟩,trivial⟩,stoodInHeld129⟩,t129,_,type129,rfl,rfl,rfl,rfl,by simp[Ty.isAgg],by decide,rfl⟩,
 ⟨⟨_,underlying138,rfl,lW.mem ⟨⟨by decide,t3,type3,by decide⟩,⟨by decide,t3,type3,by decide⟩,⟨by decide,t4,type4,by decide⟩,⟨by decide,t3,type3,by decide⟩,trivial⟩,stoodInHeld138⟩,t138,_,type138,rfl,rfl,rfl,rfl,by simp[Ty.isAgg],by decide,rfl⟩,
 ⟨underlying173,t173,_,type173,rfl,rfl,rfl,rfl,by simp[Ty.isAgg],by decide,rfl⟩,
 ⟨underlying179,t179,_,type179,rfl,rfl,rfl,rfl,by simp[Ty.isAgg],by decide,rfl⟩,
 ⟨⟨_,underlying182,rfl,lW.mem ⟨⟨by decide,t25,type25,by decide⟩,⟨by decide,t3,type3,by decide⟩,⟨by decide,t4,type4,by decide⟩,⟨by decide,t3,type3,by decide⟩,trivial⟩,stoodInHeld182⟩,t182,_,type182,rfl,rfl,rfl,rfl,by simp[Ty.isAgg],by decide,rfl⟩,
 ⟨underlying197,t197,_,type197,rfl,rfl,rfl,rfl,by simp[Ty.isAgg],by decide,rfl⟩,
 ⟨underlying205,t205,_,type205,rfl,rfl,rfl,rfl,by simp[Ty.isAgg],by decide,rfl⟩,
 ⟨⟨_,underlying207,rfl,lW.mem ⟨⟨by decide,t205,type205,by decide⟩,trivial⟩,stoodInHeld207⟩,t207,_,type207,rfl,rfl,rfl,rfl,by simp[Ty.isAgg],by decide,rfl⟩,
 ⟨underlying221,t221,_,type221,rfl,rfl,rfl,rfl,by simp[Ty.isAgg],by decide,rfl⟩,
 ⟨⟨_,underlying223,rfl,lW.mem ⟨⟨by decide,t221,type221,by decide⟩,trivial⟩,stoodInHeld223⟩,t223,_,type223,rfl,rfl,rfl,rfl,by simp[Ty.isAgg],by decide,rfl⟩,
 ⟨⟨_,underlying232,rfl,lW.mem ⟨⟨by decide,t3,type3,by decide⟩,⟨by decide,t3,type3,by decide⟩,⟨by decide,t4,type4,by decide⟩,trivial⟩,stoodInHeld232⟩,t232,_,type232,rfl,rfl,rfl,rfl,by simp[Ty.isAgg],by decide,rfl⟩,
 ⟨underlying246,t246,_,type246,rfl,rfl,rfl,rfl,by simp[Ty.isAgg],by decide,rfl⟩,
 ⟨⟨_,underlying250,rfl,lW.mem ⟨⟨by decide,t3,type3,by decide⟩,⟨by decide,t3,type3,by decide⟩,⟨by decide,t4,type4,by decide⟩,trivial⟩,stoodInHeld250⟩,t250,_,type250,rfl,rfl,rfl,rfl,by simp[Ty.isAgg],by decide,rfl⟩,
 ⟨underlying257,t257,_,type257,rfl,rfl,rfl,rfl,by simp[Ty.isAgg],by decide,rfl⟩,
 ⟨underlying263,t263,_,type263,rfl,rfl,rfl,rfl,by simp[Ty.isAgg],by decide,rfl⟩,
 ⟨⟨_,underlying291,rfl,lW.mem ⟨⟨by decide,t123,type123,by decide⟩,⟨by decide,t179,type179,by decide⟩,⟨by decide,t25,type25,by decide⟩,⟨by decide,t3,type3,by decide⟩,⟨by decide,t3,type3,by decide⟩,trivial⟩,stoodInHeld291⟩,t291,_,type291,rfl,rfl,rfl,rfl,by simp[Ty.isAgg],by decide,rfl⟩,
 ⟨underlying295,t295,_,type295,rfl,rfl,rfl,rfl,by simp[Ty.isAgg],by decide,rfl⟩,
 ⟨underlying297,t297,_,type297,rfl,rfl,rfl,rfl,by simp[Ty.isAgg],by decide,rfl⟩,
 ⟨⟨_,underlying300,rfl,lW.mem ⟨⟨by decide,t3,type3,by decide⟩,⟨by decide,t3,type3,by decide⟩,⟨by decide,t3,type3,by decide⟩,trivial⟩,stoodInHeld300⟩,t300,_,type300,rfl,rfl,rfl,rfl,by simp[Ty.isAgg],by decide,rfl⟩,
 ⟨⟨_,underlying307,rfl,lW.mem ⟨⟨by decide,t3,type3,by decide⟩,⟨by decide,t3,type3,by decide⟩,⟨by decide,t3,type3,by decide⟩,⟨by decide,t3,type3,by decide⟩,trivial⟩,stoodInHeld307⟩,t307,_,type307,rfl,rfl,rfl,rfl,by simp[Ty.isAgg],by decide,rfl⟩,
 ⟨underlying317,t317,_,type317,rfl,rfl,rfl,rfl,by simp[Ty.isAgg],by decide,rfl⟩,
 ⟨underlying318,t318,_,type318,rfl,rfl,rfl,rfl,by simp[Ty.isAgg],by decide,rfl⟩,
 ⟨⟨_,underlying346⟩,t346,_,type346,rfl,rfl,rfl,rfl,by simp[Ty.isAgg],by decide,rfl⟩,
 ⟨⟨_,_,_,underlying353⟩,t353,_,type353,rfl,rfl,rfl,rfl,by simp[Ty.isAgg],by decide,rfl⟩,
 ⟨⟨_,underlying365,rfl,lW.mem ⟨⟨by decide,t3,type3,by decide⟩,⟨by decide,t3,type3,by decide⟩,⟨by decide,t4,type4,by decide⟩,trivial⟩,stoodInHeld365⟩,t365,_,type365,rfl,rfl,rfl,rfl,by simp[Ty.isAgg],by decide,rfl⟩,
 ⟨⟨_,_,_,underlying376⟩,t376,_,type376,rfl,rfl,rfl,rfl,by simp[Ty.isAgg],by decide,rfl⟩,
 ⟨⟨_,_,_,underlying397⟩,t397,_,type397,rfl,rfl,rfl,rfl,by simp[Ty.isAgg],by decide,rfl⟩,
 trivial⟩
@[go_sem] def T3:T 3=⟨.int .i64,1,.one (.int .i64 0)⟩:=rfl
@[go_sem] def T4:T 4=⟨.bool,1,.one (.bool false)⟩:=rfl
@[go_sem] def T5:T 5=⟨.int .u8,1,.one (.int .u8 0)⟩:=rfl
@[go_sem] def T9:T 9=⟨.str,1,.one (.string {data:= #[]})⟩:=rfl
@[go_sem] def T22:T 22=⟨.sl 223,1,.sl (some 223) []⟩:=rfl
@[go_sem] def T24:T 24=⟨.agg [(0,22)],1,.agg [.sl (some 223) []]⟩:=rfl
@[go_sem] def T25:T 25=⟨.sl 3,1,.sl (some 3) []⟩:=rfl
@[go_sem] def T27:T 27=⟨.agg [(0,25),(1,3)],2,.agg [.sl (some 3) [],.one (.int .i64 0)]⟩:=rfl
@[go_sem] def T29:T 29=⟨.agg [(0,24),(1,27),(3,25)],4,.agg [.agg [.sl (some 223) []],.agg [.sl (some 3) [],.one (.int .i64 0)],.sl (some 3) []]⟩:=rfl
@[go_sem] def T30:T 30=⟨.sl 65,1,.sl (some 65) []⟩:=rfl
@[go_sem] def T31:T 31=⟨.sl 138,1,.sl (some 138) []⟩:=rfl
@[go_sem] def T33:T 33=⟨.agg [(0,3),(1,30),(2,31)],3,.agg [.one (.int .i64 0),.sl (some 65) [],.sl (some 138) []]⟩:=rfl
@[go_sem] def T34:T 34=⟨.sl 122,1,.sl (some 122) []⟩:=rfl
@[go_sem] def T36:T 36=⟨.agg [(0,29),(4,33),(7,34),(8,3),(9,31)],10,.agg [.agg [.agg [.sl (some 223) []],.agg [.sl (some 3) [],.one (.int .i64 0)],.sl (some 3) []],.agg [.one (.int .i64 0),.sl (some 65) [],.sl (some 138) []],.sl (some 122) [],.one (.int .i64 0),.sl (some 138) []]⟩:=rfl
@[go_sem] def T38:T 38=⟨.sl 68,1,.sl (some 68) []⟩:=rfl
@[go_sem] def T40:T 40=⟨.sl 207,1,.sl (some 207) []⟩:=rfl
@[go_sem] def T42:T 42=⟨.agg [(0,40)],1,.agg [.sl (some 207) []]⟩:=rfl
@[go_sem] def T43:T 43=⟨.agg [(0,25),(1,3)],2,.agg [.sl (some 3) [],.one (.int .i64 0)]⟩:=rfl
@[go_sem] def T45:T 45=⟨.agg [(0,42),(1,43),(3,25)],4,.agg [.agg [.sl (some 207) []],.agg [.sl (some 3) [],.one (.int .i64 0)],.sl (some 3) []]⟩:=rfl
@[go_sem] def T46:T 46=⟨.sl 129,1,.sl (some 129) []⟩:=rfl
@[go_sem] def T48:T 48=⟨.agg [(0,3),(1,38),(2,46)],3,.agg [.one (.int .i64 0),.sl (some 68) [],.sl (some 129) []]⟩:=rfl
@[go_sem] def T49:T 49=⟨.sl 90,1,.sl (some 90) []⟩:=rfl
@[go_sem] def T51:T 51=⟨.agg [(0,45),(4,48),(7,49),(8,3),(9,46)],10,.agg [.agg [.agg [.sl (some 207) []],.agg [.sl (some 3) [],.one (.int .i64 0)],.sl (some 3) []],.agg [.one (.int .i64 0),.sl (some 68) [],.sl (some 129) []],.sl (some 90) [],.one (.int .i64 0),.sl (some 129) []]⟩:=rfl
@[go_sem] def T58:T 58=⟨.sl 104,1,.sl (some 104) []⟩:=rfl
@[go_sem] def T63:T 63=⟨.sl 9,1,.sl (some 9) []⟩:=rfl
@[go_sem] def T65:T 65=⟨.agg [(0,3),(1,3),(2,3),(3,63)],4,.agg [.one (.int .i64 0),.one (.int .i64 0),.one (.int .i64 0),.sl (some 9) []]⟩:=rfl
@[go_sem] def T68:T 68=⟨.agg [(0,3),(1,3),(2,3),(3,63)],4,.agg [.one (.int .i64 0),.one (.int .i64 0),.one (.int .i64 0),.sl (some 9) []]⟩:=rfl
@[go_sem] def T90:T 90=⟨.agg [(0,3),(1,25)],2,.agg [.one (.int .i64 0),.sl (some 3) []]⟩:=rfl
@[go_sem] def T104:T 104=⟨.agg [(0,3),(1,3)],2,.agg [.one (.int .i64 0),.one (.int .i64 0)]⟩:=rfl
@[go_sem] def T122:T 122=⟨.agg [(0,3),(1,25)],2,.agg [.one (.int .i64 0),.sl (some 3) []]⟩:=rfl
@[go_sem] def T123:T 123=⟨.sl 25,1,.sl (some 25) []⟩:=rfl
@[go_sem] def T129:T 129=⟨.agg [(0,3),(1,3),(2,4),(3,3)],4,.agg [.one (.int .i64 0),.one (.int .i64 0),.one (.bool false),.one (.int .i64 0)]⟩:=rfl
@[go_sem] def T138:T 138=⟨.agg [(0,3),(1,3),(2,4),(3,3)],4,.agg [.one (.int .i64 0),.one (.int .i64 0),.one (.bool false),.one (.int .i64 0)]⟩:=rfl
@[go_sem] def T173:T 173=⟨.sl 5,1,.sl (some 5) []⟩:=rfl
@[go_sem] def T179:T 179=⟨.sl 232,1,.sl (some 232) []⟩:=rfl
@[go_sem] def T182:T 182=⟨.agg [(0,25),(1,3),(2,4),(3,3)],4,.agg [.sl (some 3) [],.one (.int .i64 0),.one (.bool false),.one (.int .i64 0)]⟩:=rfl
@[go_sem] def T197:T 197=⟨.int .u64,1,.one (.int .u64 0)⟩:=rfl
@[go_sem] def T205:T 205=⟨.sl 250,1,.sl (some 250) []⟩:=rfl
@[go_sem] def T207:T 207=⟨.agg [(0,205)],1,.agg [.sl (some 250) []]⟩:=rfl
@[go_sem] def T221:T 221=⟨.sl 365,1,.sl (some 365) []⟩:=rfl
@[go_sem] def T223:T 223=⟨.agg [(0,221)],1,.agg [.sl (some 365) []]⟩:=rfl
@[go_sem] def T232:T 232=⟨.agg [(0,3),(1,3),(2,4)],3,.agg [.one (.int .i64 0),.one (.int .i64 0),.one (.bool false)]⟩:=rfl
@[go_sem] def T246:T 246=⟨.sl 307,1,.sl (some 307) []⟩:=rfl
@[go_sem] def T250:T 250=⟨.agg [(0,3),(1,3),(2,4)],3,.agg [.one (.int .i64 0),.one (.int .i64 0),.one (.bool false)]⟩:=rfl
@[go_sem] def T257:T 257=⟨.arr 400 3,400,.agg (List.replicate 400 (.one (.int .i64 0)))⟩:=rfl
@[go_sem] def T263:T 263=⟨.int .i64,1,.one (.int .i64 0)⟩:=rfl
@[go_sem] def T291:T 291=⟨.agg [(0,123),(1,179),(2,25),(3,3),(4,3)],5,.agg [.sl (some 25) [],.sl (some 232) [],.sl (some 3) [],.one (.int .i64 0),.one (.int .i64 0)]⟩:=rfl
@[go_sem] def T295:T 295=⟨.sl 297,1,.sl (some 297) []⟩:=rfl
@[go_sem] def T297:T 297=⟨.sl 4,1,.sl (some 4) []⟩:=rfl
@[go_sem] def T300:T 300=⟨.agg [(0,3),(1,3),(2,3)],3,.agg [.one (.int .i64 0),.one (.int .i64 0),.one (.int .i64 0)]⟩:=rfl
@[go_sem] def T307:T 307=⟨.agg [(0,3),(1,3),(2,3),(3,3)],4,.agg [.one (.int .i64 0),.one (.int .i64 0),.one (.int .i64 0),.one (.int .i64 0)]⟩:=rfl
@[go_sem] def T317:T 317=⟨.arr 2 3,2,.agg (List.replicate 2 (.one (.int .i64 0)))⟩:=rfl
@[go_sem] def T318:T 318=⟨.arr 3 317,6,.agg (List.replicate 3 (.agg (List.replicate 2 (.one (.int .i64 0)))))⟩:=rfl
@[go_sem] def T346:T 346=⟨.ifc,1,.one .nilIface⟩:=rfl
@[go_sem] def T353:T 353=⟨.fn,1,.one .nilFunc⟩:=rfl
@[go_sem] def T365:T 365=⟨.agg [(0,3),(1,3),(2,4)],3,.agg [.one (.int .i64 0),.one (.int .i64 0),.one (.bool false)]⟩:=rfl
@[go_sem] def T376:T 376=⟨.fn,1,.one .nilFunc⟩:=rfl
@[go_sem] def T397:T 397=⟨.fn,1,.one .nilFunc⟩:=rfl
def EL (P:Program):List Nat->Prop
 |[]=>True
 |f::l=>Dv.Enters P f/\EL P l
variable {f:Nat}
def EL.get {P:Program}:∀{l:List Nat},EL P l->f∈l->Dv.Enters P f
 |[],_,h=>by cases h
 |g::l,h,hm=>by
  rcases aK.1 hm with rfl|hm
  ·exact h.1
  ·exact EL.get h.2 hm
def eL:List Nat:=[8,9,10,11,12,13,14,15,16,17,18,19,20,21,22,23,24,25,26,27,28,29,30,31,32,33,34,35,36,37,38,39,40,41,42,43,44,45,46,47,48,49,50,51,52,53,54,55,56,57,58,59,60,61,62,63,64,65,66,67,68,69,70,71,72,73,74,75,76,77,78,79,80,81,82,83,84,85,86,87,88,89,90,91,92,93,94,95,96,97,98,99,100,101,102,103,104,105,106,107,108,109,110,111,112,113,114,115,116,117,118,119,120,121,122,123,124,125,126,127,128,129,130,131,132,133,134,135,136,137,138,139,140,141,142,143,144,145,146,147,148,149,150,151,152,153,154,155,156,157,158,159,160,161,162,163,164,165,166,167,168,169,170,171,172,173,174,175,176,177,178,179,180,181,182,183,184,185,186,187,188,189,190,191,192,193,194,195,196,197,198,199,200,201,202,203,204,206,207,208,209,210,211,212,213,214,215,216,217,218,219,220,221,222,223,224,225,226,227,228,229,230,231,232,233,234,235,236,237,238,239,240,241,242,243,244,245,246,247,248,249,250,251,252,253,254,255,256,257,258,259,260,261,262,263,264,265,266,267,268,269,270,271,272,273,274,275,276,277,278,279,280,281,282,283,284,285,286,287,288,289,290,291,292,293,294,295,296,297,298,299,300,301,302,303,304,305,306,307,308,311,312,313,314,315,316,317,319,320,321,322,324,325,326,327,328,329,330,331,334,335,336,337,338,339,340,341,342,343,344,345,346,347,348,349,350,351,352,353,354,355,356,357,358,359,360,361,362,363,364,365,366,367,368,369,370,371,372,373,374,375,376,377,378,379,380,381,382,383,384,385,386,387,388,389,395,396,401,402,403,404,405,406,413,414,415,416,417,418,419,420,421,422,423,424,425,426,427,428,429,430,431,432,433,434,435,436,437,438,439,440,441,442,443,444,445,446,450,456,457,458,459,460,461,462,463,464,465,468,475,480,481,482,483,484,485,486,487,506]
open Tryz in
def eLs:EL prog eL:=⟨call8,call9,call10,call11,call12,call13,call14,call15,call16,call17,call18,call19,call20,call21,call22,call23,call24,call25,call26,call27,call28,call29,call30,call31,call32,call33,call34,call35,call36,call37,call38,call39,call40,call41,call42,call43,call44,call45,call46,call47,call48,call49,call50,call51,call52,call53,call54,call55,call56,call57,call58,call59,call60,call61,call62,call63,call64,call65,call66,call67,call68,call69,call70,call71,call72,call73,call74,call75,call76,call77,call78,call79,call80,call81,call82,call83,call84,call85,call86,call87,call88,call89,call90,call91,call92,call93,call94,call95,call96,call97,call98,call99,call100,call101,call102,call103,call104,call105,call106,call107,call108,call109,call110,call111,call112,call113,call114,call115,call116,call117,call118,call119,call120,call121,call122,call123,call124,call125,call126,call127,call128,call129,call130,call131,call132,call133,call134,call135,call136,call137,call138,call139,call140,call141,call142,call143,call144,call145,call146,call147,call148,call149,call150,call151,call152,call153,call154,call155,call156,call157,call158,call159,call160,call161,call162,call163,call164,call165,call166,call167,call168,call169,call170,call171,call172,call173,call174,call175,call176,call177,call178,call179,call180,call181,call182,call183,call184,call185,call186,call187,call188,call189,call190,call191,call192,call193,call194,call195,call196,call197,call198,call199,call200,call201,call202,call203,call204,call206,call207,call208,call209,call210,call211,call212,call213,call214,call215,call216,call217,call218,call219,call220,call221,call222,call223,call224,call225,call226,call227,call228,call229,call230,call231,call232,call233,call234,call235,call236,call237,call238,call239,call240,call241,call242,call243,call244,call245,call246,call247,call248,call249,call250,call251,call252,call253,call254,call255,call256,call257,call258,call259,call260,call261,call262,call263,call264,call265,call266,call267,call268,call269,call270,call271,call272,call273,call274,call275,call276,call277,call278,call279,call280,call281,call282,call283,call284,call285,call286,call287,call288,call289,call290,call291,call292,call293,call294,call295,call296,call297,call298,call299,call300,call301,call302,call303,call304,call305,call306,call307,call308,call311,call312,call313,call314,call315,call316,call317,call319,call320,call321,call322,call324,call325,call326,call327,call328,call329,call330,call331,call334,call335,call336,call337,call338,call339,call340,call341,call342,call343,call344,call345,call346,call347,call348,call349,call350,call351,call352,call353,call354,call355,call356,call357,call358,call359,call360,call361,call362,call363,call364,call365,call366,call367,call368,call369,call370,call371,call372,call373,call374,call375,call376,call377,call378,call379,call380,call381,call382,call383,call384,call385,call386,call387,call388,call389,call395,call396,call401,call402,call403,call404,call405,call406,call413,call414,call415,call416,call417,call418,call419,call420,call421,call422,call423,call424,call425,call426,call427,call428,call429,call430,call431,call432,call433,call434,call435,call436,call437,call438,call439,call440,call441,call442,call443,call444,call445,call446,call450,call456,call457,call458,call459,call460,call461,call462,call463,call464,call465,call468,call475,call480,call481,call482,call483,call484,call485,call486,call487,call506,trivial⟩
def okF (f:Nat):Bool:=decide (f<559)&& !([0,1,2,3,4,5,6,7,205,309,310,318,323,332,333,390,391,392,393,394,397,398,399,400,407,408,409,410,411,412,447,448,449,451,452,453,454,455,466,467,469,470,471,472,473,474,476,477,478,479,488,489,490,491,492,493,494,495,496,497,498,499,500,501,502,503,504,505,507,508,509,510,511,512,513,514,515,516,517,518,519,520,521,522,523,524,525,526,527,528,529,530,531,532,533,534,535,536,537,538,539,540,541,542,543,544,545,546,547,548,549,550,551,552,553,554,555,556,557,558].contains f)
def aHQ (h:okF f=true):f∈eL:=by
 have h1:(List.range 559).all (fun f=> !okF f||eL.contains f)=true:=by kernel_rfl
 have h2:f<559:=by simp only[okF,k_Bool_and_eq_true,decide_eq_true_eq]at h;exact h.1
 have h3:=aH.1 h1 f (bB.2 h2);rw[h]at h3;simpa using h3
@[go_sem] def enF (h:okF f=true):Dv.Enters prog f:=EL.get eLs (aHQ h)
attribute [go_sem] okF
def aE5 {M:List (Nat×Nat)}{L:List (Nat×TyE)}{t:Nat}(h1:M.lookup t=none)(h2:∀p∈L,p.1≠t):aE4 M L t=⟨.no,0,.any 0⟩:=by
 unfold aE4;rw[h1]
 induction L with
 |nil=>rfl
 |cons p L ih=>
  obtain⟨u,e⟩:=p;have h3:=h2 (u,e) lF;simp only[tab];rw[if_neg (by simpa using k_Ne_symm h3)];exact ih fun p hp=>h2 p (bC _ hp)
def akI :∀{M:List (Nat×Nat)},((M.map fun p=>p.1).contains f)=false->M.lookup f=none
 |[],_=>rfl
 |(a,b)::M,h=>by
  simp only[fI,List.contains_cons,Bool.or_eq_false_iff]at h;rw[List.lookup,h.1];exact akI h.2
@[go_sem] def muF (h1:1000000<=f)(h2:([1000014,1000015,1000020,1000027,1000033,1000053,1000054,1000055,1000056,1000122,1000123,1000124,1000126,1000192,1000200,1000201,1000278,1000282,1000294,1000298,1000300,1000301,1000322,1000361,1000364,1000381,1000415,1000421,1000435,1000437,1000438,1000482].contains f)=false):T f=⟨.no,0,.any 0⟩:=by
 unfold T;refine aE5 (akI h2) fun p hp e=> ?_;have h3:=fun h=>aH (p:=fun q:Nat×TyE=>decide (q.1<1000000))|>.1 h p hp;have h4:=h3 (by kernel_rfl);simp only[decide_eq_true_eq]at h4;omega
@[go_sem] def mu14:T 1000014=⟨.no,1001,.any 0⟩:=rfl
@[go_sem] def mu15:T 1000015=⟨.no,1,.any 0⟩:=rfl
@[go_sem] def mu20:T 1000020=⟨.no,1,.any 0⟩:=rfl
@[go_sem] def mu27:T 1000027=⟨.no,1001,.any 0⟩:=rfl
@[go_sem] def mu33:T 1000033=⟨.no,1,.any 0⟩:=rfl
@[go_sem] def mu53:T 1000053=⟨.no,1001,.any 0⟩:=rfl
@[go_sem] def mu54:T 1000054=⟨.no,1001,.any 0⟩:=rfl
@[go_sem] def mu55:T 1000055=⟨.no,1001,.any 0⟩:=rfl
@[go_sem] def mu56:T 1000056=⟨.no,1,.any 0⟩:=rfl
@[go_sem] def mu122:T 1000122=⟨.no,1001,.any 0⟩:=rfl
@[go_sem] def mu123:T 1000123=⟨.no,1001,.any 0⟩:=rfl
@[go_sem] def mu124:T 1000124=⟨.no,1,.any 0⟩:=rfl
@[go_sem] def mu126:T 1000126=⟨.no,1,.any 0⟩:=rfl
@[go_sem] def mu192:T 1000192=⟨.no,1,.any 0⟩:=rfl
@[go_sem] def mu200:T 1000200=⟨.no,1,.any 0⟩:=rfl
@[go_sem] def mu201:T 1000201=⟨.no,1,.any 0⟩:=rfl
@[go_sem] def mu278:T 1000278=⟨.no,1,.any 0⟩:=rfl
@[go_sem] def mu282:T 1000282=⟨.no,1,.any 0⟩:=rfl
@[go_sem] def mu294:T 1000294=⟨.no,1001,.any 0⟩:=rfl
@[go_sem] def mu298:T 1000298=⟨.no,1,.any 0⟩:=rfl
@[go_sem] def mu300:T 1000300=⟨.no,1,.any 0⟩:=rfl
@[go_sem] def mu301:T 1000301=⟨.no,1,.any 0⟩:=rfl
@[go_sem] def mu322:T 1000322=⟨.no,1,.any 0⟩:=rfl
@[go_sem] def mu361:T 1000361=⟨.no,1,.any 0⟩:=rfl
@[go_sem] def mu364:T 1000364=⟨.no,1,.any 0⟩:=rfl
@[go_sem] def mu381:T 1000381=⟨.no,1,.any 0⟩:=rfl
@[go_sem] def mu415:T 1000415=⟨.no,1,.any 0⟩:=rfl
@[go_sem] def mu421:T 1000421=⟨.no,1,.any 0⟩:=rfl
@[go_sem] def mu435:T 1000435=⟨.no,1000,.any 0⟩:=rfl
@[go_sem] def mu437:T 1000437=⟨.no,1000,.any 0⟩:=rfl
@[go_sem] def mu438:T 1000438=⟨.no,1000,.any 0⟩:=rfl
@[go_sem] def mu482:T 1000482=⟨.no,1000,.any 0⟩:=rfl
def aMW:T 1000060=⟨.no,0,.any 0⟩:=rfl
def aMR:Dv.Enters prog 60:=call60
def aMX:T 1000070=⟨.no,0,.any 0⟩:=rfl
def aMS:Dv.Enters prog 70:=call70
def aMY:T 1000078=⟨.no,0,.any 0⟩:=rfl
def aMT:Dv.Enters prog 78:=call78
def aI4:T 1000103=⟨.no,0,.any 0⟩:=rfl
def aIV:Dv.Enters prog 103:=call103
def mu109:T 1000109=⟨.no,0,.any 0⟩:=rfl
def en109:Dv.Enters prog 109:=call109
def aI5:T 1000127=⟨.no,0,.any 0⟩:=rfl
def aIW:Dv.Enters prog 127:=call127
def aI6:T 1000193=⟨.no,0,.any 0⟩:=rfl
def aIX:Dv.Enters prog 193:=call193
def aLY:T 1000195=⟨.no,0,.any 0⟩:=rfl
def aLJ:Dv.Enters prog 195:=call195
def aLZ:T 1000225=⟨.no,0,.any 0⟩:=rfl
def aLK:Dv.Enters prog 225:=call225
def aL0:T 1000235=⟨.no,0,.any 0⟩:=rfl
def aLL:Dv.Enters prog 235:=call235
def aL1:T 1000237=⟨.no,0,.any 0⟩:=rfl
def aLM:Dv.Enters prog 237:=call237
def aI7:T 1000275=⟨.no,0,.any 0⟩:=rfl
def aIY:Dv.Enters prog 275:=call275
def aL2:T 1000279=⟨.no,0,.any 0⟩:=rfl
def aLN:Dv.Enters prog 279:=call279
def aL3:T 1000295=⟨.no,0,.any 0⟩:=rfl
def aLO:Dv.Enters prog 295:=call295
def aLP:Dv.Enters prog 325:=call325
def aL4:T 1000329=⟨.no,0,.any 0⟩:=rfl
def aLQ:Dv.Enters prog 329:=call329
def aL5:T 1000363=⟨.no,0,.any 0⟩:=rfl
def aLR:Dv.Enters prog 363:=call363
def aL6:T 1000432=⟨.no,0,.any 0⟩:=rfl
def aLS:Dv.Enters prog 432:=call432
def aL7:T 1000441=⟨.no,0,.any 0⟩:=rfl
def aLT:Dv.Enters prog 441:=call441
def aL8:T 1000481=⟨.no,0,.any 0⟩:=rfl
def aLU:Dv.Enters prog 481:=call481
abbrev Fk (f:FuncId)(ds:List D)(r:S):Prop:=fA prog f ds fun r'=>r'=r
end Go.Proofs.YtebopbncplpdgaaGreatDoor
end
section
namespace Go.Dv
open Go.RowKit Go.ChangeShapes
variable {fs:Array Field}
section
variable {H:Type}{enc:TypeId×Value->H}{P:Program}{W:World}{t e:TypeId}{cs:List Value}{k:Nat}
def Tr (enc:TypeId×Value->H)(P:Program)(W:World)(t:TypeId)(cs:List Value):Prop:=∃fuel x,DataW.trod enc P W 0 (fun _=>true) true fuel t cs=some x
def Rd (P:Program)(W:World)(d:D)(cs:List Value):Prop:=∀l,R P W (fun _=>none) d l cs
def open_int (ht:P.underlying t=some (.int .i64))(h:Tr enc P W t cs):∃n,Rd P W (dI n) cs:=by
 obtain⟨f,x,h⟩:=h;obtain⟨n,rfl,_⟩:=DataW.trod_int ht h;exact⟨n,fun l=>by simp[R,Value.oneCell']⟩
def open_bool (ht:P.underlying t=some .bool)(h:Tr enc P W t cs):∃b,Rd P W (dB b) cs:=by
 obtain⟨f,x,h⟩:=h;obtain⟨n,rfl,_⟩:=DataW.trod_bool ht h;exact⟨n,fun l=>by simp[R,Value.oneCell']⟩
def aEB (ht:P.underlying t=some .string)(h:Tr enc P W t cs):∃s:Str,s.length<=9223372036854775807/\Rd P W (dS s) cs:=by
 obtain⟨f,x,h⟩:=h;obtain⟨n,rfl,_,hz⟩:=DataW.trod_string ht h;obtain⟨s,rfl⟩:∃s:Str,n=⟨s.toArray⟩:=⟨n.data.toList,by rw[←aIS n]⟩;rw[ba_size]at hz;have h2:maxLen=9223372036854775807:=rfl;exact⟨s,by omega,fun l=>by simp only[R];exact⟨trivial,rfl⟩⟩
def AO (ht:P.underlying t=some (.struct fs))(h:Tr enc P W t cs)(i:Nat)(f:Field)(hf:fs[i]?=some f)(o k:Nat)(ho:f.offset=o)(hk:P.cellsOf f.type=k):
  Tr enc P W f.type ((cs.drop o).take k):=by
 obtain⟨fu,x,h⟩:=h;obtain⟨xs,n,_,_,_,hlen,hfs⟩:=DataW.trod_struct ht h;have h1:=hfs i f hf;have h2:i<xs.length:=by rw[hlen];exact(bO.1 hf).1
 rw[ho,hk]at h1;exact⟨n,xs[i],by rw[h1];simp[h2]⟩
def AP (ht:P.underlying t=some (.struct fs)){n:Nat}(hn:P.cellsOf t=n)(h:Tr enc P W t cs):cs.length<=n:=by
 obtain⟨fu,x,h⟩:=h;obtain⟨xs,m,_,_,hl,_,_⟩:=DataW.trod_struct ht h;omega
def LZ {n:Nat}(h:cs.length<=n)(l:List Nat)(i:Nat):Ra P W (fun _=>none) [] l i (cs.drop n):=by
 simp only[Ra];exact bX h
def jT {x:D}{xs:List D}{o k:Nat}(h1:Rd P W x ((cs.drop o).take k))(h2:∀l i,Ra P W (fun _=>none) xs l i (cs.drop (o+k)))(l:List Nat)(i:Nat):Ra P W (fun _=>none) (x::xs) l i (cs.drop o):=by
 simp only[Ra];exact⟨_,_,by rw[←List.drop_drop];exact(dL k (cs.drop o)).symm,(h1 []).len,h1 _,h2 _ _⟩
def L6 {xs:List D}(h:∀l i,Ra P W (fun _=>none) xs l i (cs.drop 0)):Rd P W (.agg xs) cs:=fun l=>by
 simp only[R];exact h l 0
def aJA {C:Array Value}:∀(xs:List D) (l:List Nat) (i0 off:Nat),(∀i y,xs[i]?=some y->∃vs:List Value,vs.length=k/\(∀j,j<k->C[off+i*k+j]?=vs[j]?)/\Rd P W y vs)->Rs P W (fun _=>none) xs l i0 C off k
 |[],_,_,_,_=>by simp only[Rs]
 |x::xs,l,i0,off,h=>by
  obtain⟨vs,h1,h2,h3⟩:=h 0 x rfl;simp only[Rs];refine⟨vs,?_,h1,fun j hj=>by simpa using h2 j hj,h3 _,aJA xs l (i0+1) (off+k) fun i y hy=> ?_⟩
  ·rw[←(h3 []).len];exact h1
  ·obtain⟨vs,h1,h2,h3⟩:=h (i+1) y (by simpa using hy);exact⟨vs,h1,fun j hj=>by have:=h2 j hj;rwa [show off+k+i*k+j=off+(i+1)*k+j by rw[Nat.succ_mul];omega],h3⟩
def axF {b o:Nat}{v:Value}{C:Array Value}{e:TypeId}{fz:Nat×Nat}(hh:W.heap[b]?=some (.cells C e fz))(h:W.cell? ⟨b,o,none⟩=some v):C[o]?=some v:=by
 unfold World.cell? at h;simpa[hh]using h
def ayD {b o:Nat}{v:Value}(h:W.cell? ⟨b,o,none⟩=some v):∃C e fz,W.heap[b]?=some (.cells C e fz):=by
 unfold World.cell? at h;split at h
 ·rename_i C e fz hh;exact⟨C,e,fz,hh⟩
 ·simp at h
def OZ {α:Type}{f:α->D}{Q:α->Prop}(ht:P.underlying t=some (.slice e)) (hk:P.cellsOf e=k) (hk0:0<k)
  (hR:∀vs,Tr enc P W e vs->∃y,Q y/\Rd P W (f y) vs) (h:Tr enc P W t cs):
  ∃ys:List α,(ys.length<=9223372036854775807/\∀y∈ys,Q y)/\Rd P W (.sl none (ys.map f)) cs:=by
 obtain⟨fu,x,h⟩:=h;have h9:maxLen=9223372036854775807:=rfl;rcases DataW.trod_slice ht h with⟨rfl,_⟩|⟨a,len,cap,elems,rest,n,_,rfl,_,_,hl,hm,hlen,hel,_,_⟩
 ·exact⟨[],⟨by simp,by simp⟩,fun l=>by simp only[R];exact⟨none,0,rfl,by simp,by omega,.inl ⟨rfl,rfl,rfl⟩⟩⟩
 ·have each:∀i:Fin len,∃y:α,∃vs:List Value,Q y/\vs.length=k/\(∀j,(hj:j<vs.length)->W.cell? ((a.add (i.1*k)).add j)=some vs[j])/\Rd P W (f y) vs:=by
   intro i;have h1:=hel i.1 i.2;have h2:i.1<elems.length:=by rw[hlen];exact i.2
   rw[hk,aB h2]at h1;obtain⟨vs,hvs,htr⟩:=Option.bind_eq_some_iff.1 h1;obtain⟨y,hq,hy⟩:=hR _ ⟨_,_,htr⟩
   have hc:(List.range k).mapM (fun j=>W.cell? ((a.add (i.1*k)).add j))=some vs:=by
    unfold World.cells? at hvs;rw[if_pos (Nat.zero_le _)]at hvs;exact hvs
   have hvl:vs.length=k:=by rw[mapM_some_length hc,List.length_range]
   refine⟨y,vs,hq,hvl,fun j hj=> ?_,hy⟩;have h3:=mapM_some_get hc j j (by rw[xA (by omega)]);rw[h3];simp[hj]
  obtain⟨g,hg⟩:=Classical.axiomOfChoice each;refine⟨List.ofFn g,⟨by simp;omega,fun y hy=> ?_⟩,fun l=> ?_⟩
  ·obtain⟨i,rfl⟩:=List.mem_ofFn.1 hy;exact(hg i).choose_spec.1
  ·simp only[R];refine⟨some a,cap,by simp,by simp;omega,hm,?_⟩;by_cases h0:len=0
   ·refine .inr (.inl ⟨by simp,?_⟩);apply bE;simp[h0]
   ·obtain⟨vs0,_,g1,g2,_⟩:=hg ⟨0,by omega⟩;have hs:=World.cell?_spot (g2 0 (by omega));obtain⟨b,o,sp⟩:=a;obtain rfl:sp=none:=by simpa[Addr.add]using hs
    obtain⟨C,e',fz,hh⟩:=ayD (by simpa[Addr.add]using g2 0 (by omega));refine .inr (.inr ⟨b,o,k,C,e',fz,rfl,hh,by simp,by simp,aJA _ _ _ _ fun i y hy=> ?_⟩);rw[aS,aL]at hy;obtain⟨y',hy,rfl⟩:=hy;obtain⟨hi,rfl⟩:=aD.1 hy;rw[List.getElem_ofFn];obtain⟨vs,_,h1,h2,h3⟩:=hg ⟨i,by simpa using hi⟩;refine⟨vs,h1,fun j hj=> ?_,h3⟩;have h5:=h2 j (by omega);rw[Addr.add_lit,Addr.add_lit]at h5;rw[axF hh h5,aB (by omega)]
def alB {xs:List D}{cs:Array Value}(h:Rd P W (.agg xs) cs.toList):V P W (fun _=>none) (.agg xs) [] (.agg cs):=by
 simp only[V];exact⟨cs,rfl,h []⟩
def aFI {u v:Value}(h:Rd P W (.one u) [v]):V P W (fun _=>none) (.one u) [] v:=by
 simp only[V];exact h []
end
end Go.Dv
end
section
namespace Go.Dv
open Go.RowKit Go.Pl
variable [lL]
def fMs {P:Program}{T:TypeId->TyE}{f:FuncId}{fn:Func}{c:Code}{n:Nat}{rs:List ResultVar}{ds:List D}{m:Nat}{dm:D}{Q:S->D->Prop}[hG:xD P T] (sp:List Nat) (hn':fn.ntmps=n) (h:∀w0 ow0 v,@rO _ P T n w0 ow0 (some (m,v)) sp ⟨c⟩ ((argSt ds).put m (.own dm)) ⟨endM T rs m Q⟩) (hf:P.funcs[f]?=some fn:=by rfl)
  (hb:fn.body=some c:=by rfl) (hr:fn.results=rs.toArray:=by rfl) (hd':∀v,noC (some (m,v)) c=true:=by intro;rfl) (hn:n<=1000000:=by decide) (hd:ds.length<=n:=by simp):D8 P f ds m dm Q:=aBQ hG.g hf hb hn' hn hd hr fun w0 ow0 v=>h w0 ow0 v (hd' v)
end Go.Dv
end
section
namespace Go.Dv
open Go.RowKit
variable [lL]
inductive OT where
 |fin
 |no
 |st (i:Nat) (t alt:OT)
def OT.heads:OT->List Nat
 | .st i _ alt=>i::alt.heads
 |_=>[]
def OT.depth:OT->Nat
 | .st _ t alt=>max (t.depth+1) alt.depth
 |_=>0
def OT.cov (md:Region.Mode)(ops:Array Oper)(listed:Array Bool)(t:OT):Bool:=match t with
 | .no=>false
 |t=>(Region.ready md ops listed).all fun i=>t.heads.contains i
def OT.ok (md:Region.Mode)(ops:Array Oper):OT->Array Bool->Bool
 | .fin,_=>true
 | .no,_=>true
 | .st i t alt,l=>(Region.ready md ops l).contains i&&t.cov md ops (l.setIfInBounds i true)&&t.ok md ops (l.setIfInBounds i true)&&alt.ok md ops l
variable {t:OT}
section
variable {P:Program}{T:TypeId->TyE}{n:Nat}{ops:Array Oper}{md:Region.Mode}{ft:List (Nat×List Nat)}
def QT (P:Program)(T:TypeId->TyE)(n:Nat)(ft:List (Nat×List Nat))(ops:Array Oper)(AK:List Nat):OT->St->(St->Prop)->Prop
 | .fin,s,K=>K s
 | .no,_,_=>True
 | .st i t alt,s,K=>(match ops[i]? with
  |some o=>QF P T n ft [] ops [o] i AK s (fun s'=> @frK s' ⟨fun s'=>QT P T n ft ops AK t s' K⟩)
  |none=>False)/\QT P T n ft ops AK alt s K
def ksB (ft:List (Nat×List Nat))(AK:List Nat)(i:Nat)(o:Oper):Bool:=match ft.lookup i with
 |none=>(match o.dst with|some u=>AK.contains u|none=>true)
 |some Y=>Y.all fun t=>AK.contains t
def aAG (ft:List (Nat×List Nat))(AK:List Nat):Nat->List Oper->Bool
 |_,[]=>true
 |i,o::l=>ksB ft AK i o&&aAG ft AK (i+1) l
def au9 {AK:List Nat}:∀(l:List Oper) (i:Nat),aAG ft AK i l=true->∀j o,l[j]?=some o->ksB ft AK (i+j) o=true
 |[],_,_,_,_,h=>by simp at h
 |x::l,i,h,0,o,ho=>by
  simp only[aAG,k_Bool_and_eq_true]at h;simp only[List.getElem?_cons_zero,aJ]at ho;subst ho;exact h.1
 |x::l,i,h,j+1,o,ho=>by
  simp only[aAG,k_Bool_and_eq_true]at h;have:=au9 l (i+1) h.2 j o (by simpa using ho)
  rwa [show i+(j+1)=i+1+j by omega]
def did_un {AK:List Nat}{i:Nat}{o:Oper}{s s':St}(hd:Did P n ft ops i o s s')(hb:ksB ft AK i o=true)(hk:∀i,i∉AK->s i= .un):∀i,i∉AK->s' i= .un:=by
 intro j hj;unfold Did at hd;unfold ksB at hb;split at hd
 ·rename_i hl;rw[hl]at hb;obtain⟨u,y,h1,h2,h3,h4,h5,rfl⟩:=hd;rw[h1]at hb;have:j≠u:=by rintro rfl;exact hj (by simpa using hb)
  rw[pY this];exact hk j hj
 ·rename_i Y hl;rw[hl]at hb;obtain⟨f,h1,rfl⟩:=hd;have:j∉Y:=fun hm=>hj (by simpa using aH.1 hb j hm);simp only[St.merge,if_neg this];exact hk j hj
def aw5 (hG:∀t,Good P T t){AK:List Nat}{K:St->Prop}(hA:∀i o,ops[i]?=some o->ksB ft AK i o=true):∀(t:OT),
  (∀(listed:Array Bool) (s:St) (fuel:Nat),t.ok md ops listed=true->t.depth<=fuel+1->(∀i,i∉AK->s i= .un)->QT P T n ft ops AK t s K->∀i∈t.heads,qG P n ft ops i (aiR P n ft md ops K fuel (listed.setIfInBounds i true)) s)/\
  (∀(listed:Array Bool) (s:St) (fuel:Nat),t.cov md ops listed=true->t.ok md ops listed=true->t.depth<=fuel->(∀i,i∉AK->s i= .un)->QT P T n ft ops AK t s K->aiR P n ft md ops K fuel listed s):=by
 intro t
 induction t with
 |fin=>
  refine⟨fun _ _ _ _ _ _ _ i hi=>by simp[OT.heads]at hi,fun listed s fuel hc _ _ _ h=> ?_⟩
  have h0:Region.ready md ops listed=[]:=by
   cases hr:Region.ready md ops listed with
   |nil=>rfl
   |cons a l=>simp[OT.cov,OT.heads,hr]at hc
  cases fuel with
  |zero=>exact⟨h0,h⟩
  |succ fuel=>exact⟨fun _=>h,fun i hi=>by rw[h0]at hi;cases hi⟩
 |no=>exact⟨fun _ _ _ _ _ _ _ i hi=>by simp[OT.heads]at hi,fun _ _ _ hc _ _ _ _=>by simp[OT.cov]at hc⟩
 |st j t alt iht iha=>
  have hAA:∀(listed:Array Bool) (s:St) (fuel:Nat),(OT.st j t alt).ok md ops listed=true->(OT.st j t alt).depth<=fuel+1->(∀i,i∉AK->s i= .un)->QT P T n ft ops AK (.st j t alt) s K->∀i∈(OT.st j t alt).heads,qG P n ft ops i (aiR P n ft md ops K fuel (listed.setIfInBounds i true)) s:=by
   intro listed s fuel hok hdp hk h i hi;simp only[OT.ok,k_Bool_and_eq_true]at hok;simp only[OT.depth]at hdp;unfold QT at h;simp only[OT.heads,aK]at hi;by_cases hij:i=j
   ·subst hij;have h1:=h.1;cases ho:ops[i]? with
    |none=>rw[ho]at h1;exact h1.elim
    |some o=>
     rw[ho]at h1;obtain⟨s',Ks',hd,_,hrest⟩:=ar7 hG hk (by simp) h1;rw[alG]at hrest;exact amX ho hd (iht.2 _ s' fuel hok.1.1.2 hok.1.2 (by omega) (did_un hd (hA i o ho) hk) hrest)
   ·exact iha.1 listed s fuel hok.2 (by omega) hk h.2 i (hi.resolve_left hij)
  refine⟨hAA,fun listed s fuel hc hok hdp hk h=> ?_⟩;cases fuel with
  |zero=>simp[OT.depth]at hdp
  |succ fuel=>
   refine⟨fun h0=> ?_,fun i hi=> ?_⟩
   ·simp only[OT.ok,k_Bool_and_eq_true]at hok;have:=hok.1.1.1;rw[h0]at this;simp at this
   ·simp only[OT.cov,aH]at hc;exact hAA listed s fuel hok hdp hk h i (by simpa using hc i hi)
def preB (ft:List (Nat×List Nat))(hs:List Nat)(md:Region.Mode)(ops:Array Oper):Nat->Nat->Array Bool->Bool
 |0,_,_=>true
 |fuel+1,k,listed=>match hs.contains k with
  |true=>preB ft hs md ops fuel (k+1) listed
  |false=>(Region.ready md ops listed).contains k&&avS ft md ops listed k&&preB ft hs md ops fuel (k+1) (listed.setIfInBounds k true)
def abY (hs:List Nat):Nat->Nat->Array Bool->Array Bool
 |0,_,listed=>listed
 |fuel+1,k,listed=>match hs.contains k with
  |true=>abY hs fuel (k+1) listed
  |false=>abY hs fuel (k+1) (listed.setIfInBounds k true)
def afA (hG:∀t,Good P T t)(hn:n<=1000000){hs AK:List Nat}{K J:St->Prop}{m:Nat}(hA:∀i o,ops[i]?=some o->ksB ft AK i o=true):∀(l:List Oper) (k:Nat) (listed:Array Bool) (Ks:List Nat) (s:St),(∀j,j<l.length->l[j]?=ops[k+j]?)->Closed md ops listed->FK s->(∀i,i∉Ks->s i= .un)->(∀i,i∉AK->s i= .un)->
  preB ft hs md ops l.length k listed=true->(∀s',(∀i,i∉AK->s' i= .un)->J s'->aiR P n ft md ops K m (abY hs l.length k listed) s')->QF P T n ft hs ops l k Ks s J->aiR P n ft md ops K (left hs l k+m) listed s
 |[],k,listed,Ks,s,hl,hcl,hc,hk,hka,hB,hJ,h=>by
  rw[alG]at h;rw[show left hs [] k+m=m by simp[left]];exact hJ s hka h
 |o::l,k,listed,Ks,s,hl,hcl,hc,hk,hka,hB,hJ,h=>by
  have h0:ops[k]?=some o:=by simpa using(hl 0 (by simp)).symm
  have hl':∀j,j<l.length->l[j]?=ops[k+1+j]?:=fun j hj=>by have:=hl (j+1) (by simpa using hj);simpa[oW,Nat.add_comm 1 j]using this
  simp only[k_List_length_cons,preB]at hB;simp only[k_List_length_cons,abY]at hJ;unfold left;cases hh:hs.contains k with
  |true=>
   rw[hh]at hB hJ;rw[alF]at h;rw[hh]at h;exact afA hG hn hA l (k+1) listed Ks s hl' hcl hc hk hka hB hJ h
  |false=>
   rw[hh]at hB hJ;simp only[k_Bool_and_eq_true]at hB;obtain⟨⟨hr,hf⟩,hB'⟩:=hB;obtain⟨s',Ks',hd,hk',hrest⟩:=ar7 hG hk hh h;simp only;rw[show left hs l (k+1)+1+m=left hs l (k+1)+m+1 by omega]
   exact ae9 hn h0 (left hs l (k+1)+m) listed s s' hcl (agV h0 hf) (by simpa using hr) hc hd
    (afA hG hn hA l (k+1) _ Ks' s' hl' (hcl.set (by simpa using hr)) (hd.cons hc) hk' (did_un hd (hA k o h0) hka) hB' hJ hrest)
def aKO (ft:List (Nat×List Nat))(hs AK:List Nat)(m:Nat)(t:OT)(ks:List Nat)(ops:Array Oper):Bool:=
 Region.noSelect ops&&OP .any ops hs (Array.replicate ops.size false)&&decide (m<=ops.size)&&preB ft hs .any ops m 0 (MB hs (Array.replicate ops.size false))&&
 t.cov .any ops (abY hs m 0 (MB hs (Array.replicate ops.size false)))&&t.ok .any ops (abY hs m 0 (MB hs (Array.replicate ops.size false)))&&aAG ft AK 0 ops.toList&&ks.all (fun i=>AK.contains i)&&
 decide (left hs (ops.toList.take m) 0+t.depth+hs.length=ops.size)
def aqX (hG:∀t,Good P T t) {p:Pin}{w0:World}{ow0:Own}{s:St}{K:Exit->St->Prop}{id:Nat}{hs AK:List Nat}{m:Nat}{M:List (Nat×S)}{ts:List Nat}(hm:P.follows .mixedOrders=true) (hn:n<=1000000)
  (hB:aKO ft hs AK m t (M.map Prod.fst) ops=true)
  (h:QM P T n ops hs s fun s'=>wI (s'.DN ts) M M/\QF P T n ft hs ops (ops.toList.take m) 0 (M.map Prod.fst) (lst M) (fun s'=> @frK s' ⟨fun s'=>QT P T n ft ops AK t s' (fun s'=>K .normal s')⟩)) (hd:qC p ops.toList=true):OkC P n w0 ow0 p (.region id ops true) s K:=by
 simp only[aKO,k_Bool_and_eq_true,decide_eq_true_eq]at hB;obtain⟨⟨⟨⟨⟨⟨⟨⟨hB1,hB2⟩,hBm⟩,hB3⟩,hB4⟩,hB5⟩,hB6⟩,hB7⟩,hB8⟩:=hB;intro a w hR hp Q hQ;refine wp_mono (Q:=fun e a w=>match e with| .normal=>Q .normal a w|_=>False) ?_ fun e a w he=>(by cases e<;>first|exact he|exact he.elim);have hR2:Rel P n w0 ow0 s a {w with drawn:=w.drawn+1}:=by obtain⟨ow,hf⟩:=hR;exact⟨ow,hf.drew⟩
 refine wp_region_any hm ?_;obtain⟨s1,a1,⟨g1,g2⟩,g3,g4,g5⟩:=ZW (md:= .any) (ops:=ops) (Q:=fun e a w=>match e with| .normal=>Q .normal a w|_=>False) hG (fun c a w h=>h) (noSelect_spec hB1) (qC.one hd) hs _ _ _ hB2 h hR2 hp;have g6:=g5 (left hs (ops.toList.take m) 0+t.depth);rw[hB8]at g6;refine g6 ?_;have g3':=(vP ts g1).rel g3;have hc:FK (lst M):=by obtain⟨ow,hf⟩:=g3';exact hf.cons
 have hlen:(ops.toList.take m).length=m:=by simp;omega
 have hA:∀i o,ops[i]?=some o->ksB ft AK i o=true:=fun i o ho=>by
  have:=au9 ops.toList 0 hB6 i o (by simpa using ho)
  rwa [bT]at this
 refine NW (ft:=ft) (qC.one hd) (K:=fun s'=>K .normal s') (Q':=fun e a w=>match e with| .normal=>Q .normal a w|_=>False) (fun s' a' w' hK hR' hp'=>hQ _ _ _ _ hK hR' hp') _ _ (lst M) _ _ g3' g4 ?_;refine afA (md:= .any) hG hn hA (ops.toList.take m) 0 _ _ (lst M) (fun j hj=> ?_) (MC _ _ hB2 alW) hc (fun i hi=>amO hi) (fun i hi=>amO fun hm=>hi (by simpa using aH.1 hB7 i hm)) (by rw[hlen];exact hB3) (fun s' hk' hJ=> ?_) g2
 ·have:j<m:=by omega
  simp[this]
 ·rw[hlen];exact(aw5 hG hA t).2 _ s' _ hB4 hB5 (k_Nat_le_refl _) hk' hJ
end
section
variable {P:Program}{T:TypeId->TyE}{n:Nat}{w0:World}{ow0:Own}{p:Pin}{sp:List Nat}{s:St}{K:Exit->St->Prop}
def wdo [hG:xD P T] {i:Nat}{ops:Array Oper}(hs:List Nat) (ft:List (Nat×List Nat)) (M:List (Nat×S)) (ts:List Nat) (m:Nat) (t:OT) (AK:List Nat)
  (h:QM P T n ops hs s fun s'=>wI (s'.DN ts) M M/\QF P T n ft hs ops (ops.toList.take m) 0 (M.map Prod.fst) (lst M) (fun s'=> @frK s' ⟨fun s'=>QT P T n ft ops AK t s' (fun s'=> @PV s' ⟨K⟩)⟩))
  (hB:aKO ft hs AK m t (M.map Prod.fst) ops=true:=by kernel_rfl) (hm:P.follows .mixedOrders=true:=by rfl) (hn:n<=1000000:=by decide): @rO _ P T n w0 ow0 p sp ⟨.region i ops true⟩ s ⟨K⟩:=fun hd=>aqX hG.g hm hn hB h hd
end
attribute [go_sem] QT
section
variable {P:Program}{T:TypeId->TyE}{n:Nat}{ops:Array Oper}{md:Region.Mode}{p:Pin}{w0:World}{ow0:Own}
def QO (P:Program)(T:TypeId->TyE)(n:Nat)(ops:Array Oper):OT->St->(St->Prop)->Prop
 | .fin,s,K=>K s
 | .no,_,_=>True
 | .st i t alt,s,K=>(match ops[i]? with
  |some o=>vcL P T n ops [o] s (fun s'=> @frK s' ⟨fun s'=>QO P T n ops t s' K⟩)
  |none=>False)/\QO P T n ops alt s K
def aKF {o:Oper}{i:Nat}(ho:ops[i]?=some o) {s:St}{K:St->Prop}{Q:Exit->Act->World->Prop}{F:Act->World->Prop}(hd:sU p o=true) (h:OkL P n w0 ow0 ops [o] s K) {a:Act}{w:World}(hR:Rel P n w0 ow0 s a w) (hp:Pinned p a)
  (hF:∀s' a' w',K s'->Rel P n w0 ow0 s' a' w'->Pinned p a'->F a' w'):wpOp P ops Q i F a w:=by
 have hg:=TW hR h;unfold wpOp;rw[ho];simp only;split
 ·rename_i hw;rw[if_pos hw]at hg;have h1:=hg a w hR (fun a' w'=>∃s',OkL P n w0 ow0 ops [] s' K/\Rel P n w0 ow0 s' a' w') Q fun s' a' w' hK hR'=>⟨s',hK,hR'⟩;exact .inl (uE (fun a' w' hh=>by obtain⟨⟨s',hK,hR'⟩,hp'⟩:=hh;exact hF s' a' w' hK hR' hp') (ab7 hp hd h1))
 ·rename_i hw;rw[if_neg hw]at hg;obtain⟨ow,hf⟩:=hR;exact hF _ _ w hg.2 ⟨ow,hf.aKV hg.1⟩ (hp.put hd)
def aMI (hG:∀t,Good P T t)(hd:∀o∈ops.toList,sU p o=true){K:St->Prop}{Q:Exit->Act->World->Prop}(hQ:∀s' a' w',K s'->Rel P n w0 ow0 s' a' w'->Pinned p a'->Q .normal a' w'):∀(t:OT),
  (∀(listed:Array Bool) (s:St) (a:Act) (w:World) (fuel:Nat),t.ok md ops listed=true->t.depth<=fuel+1->QO P T n ops t s K->Rel P n w0 ow0 s a w->Pinned p a->∀i∈t.heads,wpOp P ops Q i (wpAny P md ops Q fuel (listed.setIfInBounds i true)) a w)/\
  (∀(listed:Array Bool) (s:St) (a:Act) (w:World) (fuel:Nat),t.cov md ops listed=true->t.ok md ops listed=true->t.depth<=fuel->QO P T n ops t s K->Rel P n w0 ow0 s a w->Pinned p a->wpAny P md ops Q fuel listed a w):=by
 intro t
 induction t with
 |fin=>
  refine⟨fun _ _ _ _ _ _ _ _ _ _ i hi=>by simp[OT.heads]at hi,fun listed s a w fuel hc _ _ h hR hp=> ?_⟩
  have h0:Region.ready md ops listed=[]:=by
   cases hr:Region.ready md ops listed with
   |nil=>rfl
   |cons x l=>simp[OT.cov,OT.heads,hr]at hc
  cases fuel with
  |zero=>exact⟨h0,hQ s a w h hR hp⟩
  |succ fuel=>exact⟨fun _=>hQ s a w h hR hp,fun i hi=>by rw[h0]at hi;cases hi⟩
 |no=>exact⟨fun _ _ _ _ _ _ _ _ _ _ i hi=>by simp[OT.heads]at hi,fun _ _ _ _ _ hc=>by simp[OT.cov]at hc⟩
 |st j t alt iht iha=>
  have hAA:∀(listed:Array Bool) (s:St) (a:Act) (w:World) (fuel:Nat),(OT.st j t alt).ok md ops listed=true->(OT.st j t alt).depth<=fuel+1->QO P T n ops (.st j t alt) s K->Rel P n w0 ow0 s a w->Pinned p a->∀i∈(OT.st j t alt).heads,wpOp P ops Q i (wpAny P md ops Q fuel (listed.setIfInBounds i true)) a w:=by
   intro listed s a w fuel hok hdp h hR hp i hi;simp only[OT.ok,k_Bool_and_eq_true]at hok;simp only[OT.depth]at hdp;unfold QO at h;simp only[OT.heads,aK]at hi;by_cases hij:i=j
   ·subst hij;have h1:=h.1;cases ho:ops[i]? with
    |none=>rw[ho]at h1;exact h1.elim
    |some o=>
     rw[ho]at h1
     have hm:o∈ops.toList:=by
      obtain⟨hlt,he⟩:=bO.1 ho;rw[←he];simp
     exact aKF ho (hd o hm) (GD hG _ _ _ h1) hR hp fun s' a' w' hK hR' hp'=>iht.2 _ s' a' w' fuel hok.1.1.2 hok.1.2 (by omega) hK hR' hp'
   ·exact iha.1 listed s a w fuel hok.2 (by omega) h.2 hR hp i (hi.resolve_left hij)
  refine⟨hAA,fun listed s a w fuel hc hok hdp h hR hp=> ?_⟩;cases fuel with
  |zero=>simp[OT.depth]at hdp
  |succ fuel=>
   refine⟨fun h0=> ?_,fun i hi=> ?_⟩
   ·simp only[OT.ok,k_Bool_and_eq_true]at hok;have:=hok.1.1.1;rw[h0]at this;simp at this
   ·simp only[OT.cov,aH]at hc;exact hAA listed s a w fuel hok hdp h hR hp i (by simpa using hc i hi)
def aKP (hs:List Nat)(t:OT)(ops:Array Oper):Bool:=
 Region.noSelect ops&&OP .any ops hs (Array.replicate ops.size false)&&
 t.cov .any ops (MB hs (Array.replicate ops.size false))&&t.ok .any ops (MB hs (Array.replicate ops.size false))&&decide (t.depth+hs.length=ops.size)
def aDX (hG:∀t,Good P T t) {s:St}{K:Exit->St->Prop}{id:Nat}{hs:List Nat}(hm:P.follows .mixedOrders=true) (hB:aKP hs t ops=true)
  (h:QM P T n ops hs s fun s'=>QO P T n ops t s' (fun s'=>K .normal s')) (hd:qC p ops.toList=true):OkC P n w0 ow0 p (.region id ops true) s K:=by
 simp only[aKP,k_Bool_and_eq_true,decide_eq_true_eq]at hB;obtain⟨⟨⟨⟨hB1,hB2⟩,hB4⟩,hB5⟩,hB8⟩:=hB;intro a w hR hp Q hQ;refine wp_mono (Q:=fun e a w=>match e with| .normal=>Q .normal a w|_=>False) ?_ fun e a w he=>(by cases e<;>first|exact he|exact he.elim);have hR2:Rel P n w0 ow0 s a {w with drawn:=w.drawn+1}:=by obtain⟨ow,hf⟩:=hR;exact⟨ow,hf.drew⟩
 refine wp_region_any hm ?_;obtain⟨s1,a1,g1,g3,g4,g5⟩:=ZW (md:= .any) (ops:=ops) (Q:=fun e a w=>match e with| .normal=>Q .normal a w|_=>False) hG (fun c a w h=>h) (noSelect_spec hB1) (qC.one hd) hs _ _ _ hB2 h hR2 hp;have g6:=g5 t.depth;rw[hB8]at g6;refine g6 ?_;exact(aMI (md:= .any) hG (qC.one hd) (K:=fun s'=>K .normal s') (Q:=fun e a w=>match e with| .normal=>Q .normal a w|_=>False) (fun s' a' w' hK hR' hp'=>hQ _ _ _ _ hK hR' hp') t).2 _ s1 a1 _ _ hB4 hB5 (k_Nat_le_refl _) g1 g3 g4
def wdx [hG:xD P T] {sp:List Nat}{s:St}{K:Exit->St->Prop}{i:Nat}(hs:List Nat) (t:OT) (h:QM P T n ops hs s fun s'=>QO P T n ops t s' (fun s'=> @PV s' ⟨K⟩))
  (hB:aKP hs t ops=true:=by kernel_rfl) (hm:P.follows .mixedOrders=true:=by rfl): @rO _ P T n w0 ow0 p sp ⟨.region i ops true⟩ s ⟨K⟩:=fun hd=>aDX hG.g hm hB h hd
def SK {Q:Exit->Act->World->Prop}{l2:List Oper}:∀(l:List Oper) (s:St) (K:St->Prop),OkL P n w0 ow0 ops l s K->(∀o∈l,sU p o=true)->∀a w,Rel P n w0 ow0 s a w->Pinned p a->(∀s' a' w',K s'->Rel P n w0 ow0 s' a' w'->Pinned p a'->wpList P ops Q l2 a' w')->wpList P ops Q (l++l2) a w
 |[],s,K,h,_,a,w,hR,hp,hQ=>hQ s a w h hR hp
 |o::l,s,K,h,hd,a,w,hR,hp,hQ=>by
  have hg:=TW hR h;rw[fZ];unfold wpList;split
  ·rename_i hw;rw[if_pos hw]at hg;have h1:=hg a w hR (fun a' w'=>∃s',OkL P n w0 ow0 ops l s' K/\Rel P n w0 ow0 s' a' w') Q fun s' a' w' hK hR'=>⟨s',hK,hR'⟩;exact .inl (uE (fun a' w' hh=>by obtain⟨⟨s',hK,hR'⟩,hp'⟩:=hh;exact SK l s' K hK (fun o ho=>hd o (bC _ ho)) a' w' hR' hp' hQ) (ab7 hp (hd o (by simp)) h1))
  ·rename_i hw;rw[if_neg hw]at hg;obtain⟨ow,hf⟩:=hR;exact SK l _ K hg.2 (fun o ho=>hd o (bC _ ho)) _ w ⟨ow,hf.aKV hg.1⟩ (hp.put (hd o (by simp))) hQ
def wtc [hG:xD P T]{sp:List Nat}{s:St}{K:Exit->St->Prop}{i:Nat}(m:Nat)(ts:List Nat)(h:vcL P T n ops (ops.toList.take m) s (fun s'=>vcL P T n ops (ops.toList.drop m) (s'.DN ts) (fun s2=> @PV s2 ⟨K⟩))):
  @rO _ P T n w0 ow0 p sp ⟨.region i ops false⟩ s ⟨K⟩:=fun hd a w hR hp Q hQ=>wp_region_list (by
 have hd':qC p ops.toList=true:=hd
 have:=SK (Q:=Q) (l2:=ops.toList.drop m) (ops.toList.take m) s _ (GD hG.g _ _ _ h) (fun o ho=>qC.one hd' o (eU ho)) a w hR hp fun s' a' w' hK hR' hp'=>
  OkL.wp _ _ _ (GD hG.g _ _ _ hK) (fun o ho=>qC.one hd' o (iY ho)) a' w' ((TE ts).rel hR') hp' fun s2 a2 w2 hK2 hR2 hp2=>hQ _ _ _ _ hK2 hR2 hp2
 rwa [dL]at this)
end
attribute [go_sem] QO
section
variable {P:Program}{T:TypeId->TyE}{n:Nat}{ops:Array Oper}{p:Pin}{w0:World}{ow0:Own}
def Ok.mono {o:Oper}{s:St}{K K':St->Prop}(h:Ok P n w0 ow0 o s K)(hK:∀s',K s'->K' s'):Ok P n w0 ow0 o s K':=fun a w hR next Q hn=>h a w hR next Q fun s' a' w' hk hR'=>hn s' a' w' (hK s' hk) hR'
def aM2 (hG:∀t,Good P T t) {sp:List Nat}{s:St}{K:Exit->St->Prop}{i:Nat}(m:Nat) {o:Oper}{l2:List Oper}(ho:ops.toList.drop m=o::l2) (hg:o.guard=none)
  {K1:St->Prop}(h:vcL P T n ops (ops.toList.take m) s K1) (hK1:∀s1,K1 s1->Ok P n w0 ow0 o s1 (fun s2=>vcL P T n ops l2 s2 (fun s3=> @PV s3 ⟨K⟩))):
  @rO _ P T n w0 ow0 p sp ⟨.region i ops false⟩ s ⟨K⟩:=fun hd a w hR hp Q hQ=>wp_region_list (by
 have hd':qC p ops.toList=true:=hd
 have:=SK (Q:=Q) (l2:=ops.toList.drop m) (ops.toList.take m) s _ (GD hG _ _ _ h) (fun o ho=>qC.one hd' o (eU ho)) a w hR hp fun s' a' w' hK hR' hp'=>by
  refine OkL.wp (ops.toList.drop m) s' (fun s3=> @PV s3 ⟨K⟩) ?_ (fun o ho=>qC.one hd' o (iY ho)) a' w' hR' hp' fun s2 a2 w2 hK2 hR2 hp2=>hQ _ _ _ _ hK2 hR2 hp2;rw[ho];unfold OkL gK;rw[hg];exact(hK1 s' hK).mono fun s2 h2=>GD hG _ _ _ h2
 rwa [dL]at this)
end
end Go.Dv
end
section
namespace Go
def iJ:= @Int.toNat_natCast
def fG:= @List.getElem?_replicate
end Go
end
section
namespace Go.Dv
open Go.RowKit
variable [lL]
variable {K:Exit->St->Prop}
variable {s:St}{lo:Operand}
variable {a:Act}{x:Operand}
variable {zv:Value}
variable {i:TypeInfo}
variable {v:Value}
section
variable {P:Program}{T:TypeId->TyE}{n:Nat}{ops:Array Oper}{p:Pin}{w0:World}{ow0:Own}
def ai4 {z:Array Value}{n:Nat}(h:v∈(Builtin.zeroCells z n).toList)(hz:0<z.size):v∈z.toList:=by
 simp only[Builtin.zeroCells,qX,dG,Array.toList_range]at h;obtain⟨i,_,rfl⟩:=h;have hm:i % z.size<z.size:=Nat.mod_lt _ hz;rw[getElem!_pos z _ hm];simp
def R.aFS {w:World}{ow:Own}{e:TypeId}{xs:List D}{l:List Nat}{b cap s:Nat}{C:Array Value}{fz:Nat×Nat}{vs:List Value}{j:Nat}(hb:w.heap[b]?=some (.cells C e fz)) (hone:∀v∈vs,v.oneCell'=true)
  (ho:ow b=some l) (hU:alH fz C.size) (hC:C.size=cap*s) (hi:P.info? e=some i) (his:i.size=s) (hrow:Rs P w ow xs l 0 C 0 s) (hc1:xs.length<=cap) (hc2:cap<=maxLen) (hj:j<=xs.length) (hv:vs.length=(xs.length-j)*s):
  R P (w.setRow b (C.toList.take (j*s)++vs++C.toList.drop (j*s+vs.length)).toArray) ow (.sl (some e) (xs.take j++List.replicate (xs.length-j) (.any s))) l [.slice (some ⟨b,0,none⟩) xs.length cap]:=by
 have hfit:j*s+vs.length<=C.size:=by
  rw[hv,hC,←Nat.add_mul];exact aX _ (by omega)
 obtain⟨hw,hb',hcs⟩:=Wr.setRow (o:=j*s) (vs:=vs) hb hfit;have hlen:(xs.take j++List.replicate (xs.length-j) (D.any s)).length=xs.length:=by simp;omega
 have hr:=(Rs.iff hb).1 hrow;simp only[R];refine⟨_,_,by rw[hlen],by omega,hc2,.inr (.inr ⟨b,0,s,_,e,fz,rfl,hb',(fun h=>by cases h),(fun t ht=> ?_),(Rs.iff hb').2 fun k x hx=> ?_⟩)⟩
 ·obtain rfl:=k_Option_some_inj ht;have hsz:(C.toList.take (j*s)++vs++C.toList.drop (j*s+vs.length)).toArray.size=C.size:=by simp;omega
  exact⟨ho,rfl,by rw[hsz];exact hU,rfl,by rw[hsz];exact hC,i,hi,his⟩
 ·by_cases hk:k<j
  ·rw[bA (by simp;omega),bD,if_pos hk]at hx;obtain⟨g1,g2⟩:=hr k x hx;refine⟨g1,g2.frame hw ⟨by rw[ho];simp,fun q e=> ?_⟩ ?_⟩
   ·rw[ho]at e;exact suffix_absurd (k_Option_some_inj e)
   ·first
     |exact .inr (.inr (by simp only[bT];rw[g1];have:=aX s (show k+1<=j by omega);rw[k_Nat_add_mul]at this;omega))
     |exact .inr (.inl (by simp only[bT];rw[g1];have:=aX s (show k+1<=j by omega);rw[k_Nat_add_mul]at this;omega))
  ·have hkl:k<xs.length:=by have:=(aD.1 hx).1;rw[hlen]at this;exact this
   rw[aN (by simp;omega),fG]at hx;split at hx
   ·obtain rfl:=k_Option_some_inj hx
    have hm:(k-j)*s+s<=vs.length:=by
     rw[hv];have:=aX s (show k-j+1<=xs.length-j by omega);rw[k_Nat_add_mul]at this;omega
    refine⟨rfl,_,_,_,(vs.drop ((k-j)*s)).take s,hb',fun m hm2=> ?_,?_⟩
    ·have hm2:m<s:=hm2;have h1:=hcs ((k-j)*s+m) (by omega);rw[bD,if_pos hm2,dX];rw[←h1];congr 1;have:k*s=j*s+(k-j)*s:=by rw[←Nat.add_mul];congr 1;omega
     omega
    ·simp only[R];refine⟨by simp;omega,fun v hv2=>hone v (iY (eU hv2))⟩
   ·cases hx
def aEO {w:World}{e:TypeId}(hi:P.info? e=some i)(hz:i.zero=some zv):(zeroValue e).run P w= .ok zv w:=by simp[zeroValue,typeInfo,hi,hz]
def auN {w:World}{t e ty:TypeId}(ht:P.underlying t=some (.slice e))(a:Option Addr)(cap:Nat):(Builtin.clear_ #[t] ty #[.slice a 0 cap]).run P w= .ok (.tuple #[]) w:=by
 cases a<;>simp[Builtin.clear_,run_underlying ht]
def auO {w w':World}{t e ty:TypeId}(ht:P.underlying t=some (.slice e))(hz:(zeroValue e).run P w= .ok zv w)(a:Addr)(n cap:Nat)(hn:n≠0)(h:(storeCells a (Builtin.zeroCells zv.cells n).toList).run P w= .ok () w'):(Builtin.clear_ #[t] ty #[.slice (some a) n cap]).run P w= .ok (.tuple #[]) w':=by
 obtain⟨m,rfl⟩:∃m,n=m+1:=⟨n-1,by omega⟩;simp[Builtin.clear_,run_underlying ht,hz,h]
def agB {w w':World}{o:Oper}{t:TypeId}(ho:o.op= .call {callee:= .builtin .clear,args:= #[x],argTypes:= #[t]})(hv:a.eval x=v)(h:∀ty,(Builtin.clear_ #[t] ty #[v]).run P w= .ok (.tuple #[]) w'):(execOp a.eval o).run P w= .ok (.value (.tuple #[])) w':=by
 unfold execOp;rw[ho];have h0:=fun ty=>h ty;simp[resolve,invoke,builtin,hv,h0]
def aAY {Q:Exit->Act->World->Prop}(hG:∀t,Good P T t) {o1 o2:Oper}{K:St->Prop}{t e:TypeId}{r u j:Nat}{k:IntKind}{xs:List D}(ht:(T t).ty= .sl e) (he:(T e).ok=true) (hew:0<(T e).w) (hg1:o1.guard=none) (hg2:o2.guard=none)
  (ho1:o1.op= .slice t x (some lo) none none) (hd1:o1.dst=some u) (hu:u<n) (ho2:o2.op= .call {callee:= .builtin .clear,args:= #[.tmp u],argTypes:= #[t]}) (hd2:∀v,o2.dst=some v->v<n/\v≠r) (hur:u≠r)
  (hx:evS s x= .al r []) (hs:s r= .own (.sl (some e) xs)) (hlo:evS s lo= .val (.one (.int k j))) (hj:j<=xs.length) (hn1:sU p o1=true) (hn2:sU p o2=true)
  (hK:K ((((s.set u .un).kill r).put r (.own (.sl (some e) (xs.take j++List.replicate (xs.length-j) (.any (T e).w))))).jR o2.dst (.tup [])))
  {w:World}(hR:Rel P n w0 ow0 s a w) (hp:Pinned p a) (hQ:∀s' a' w',K s'->Rel P n w0 ow0 s' a' w'->Pinned p a'->Q .normal a' w'):wpList P ops Q [o1,o2] a w:=by
 obtain⟨ow,hf⟩:=hR;have hsl:=(hG t).desc ht (by simp);obtain⟨_,i,zv,hi,his,hz,hflat,_,_,_,hzw⟩:=(hG e).of (fun y hy e2=>by subst e2;unfold TyE.ok at he;rw[hy]at he;cases he);have hu6:u<1000000:=dZ hu hf.small
 have hval:a.eval x=aval a r:=by
  have hv:=hf.eval x;rw[hx]at hv;obtain⟨_,_,_,_,_,h4⟩:=hv;rcases h4 with⟨_,h4⟩|⟨b,off,h4,_⟩
  ·exact h4
  ·simp[loc]at h4
 have hV:=hf.slot r;rw[hs]at hV;simp only[SV,V,R]at hV;obtain⟨ad,cap,hv,hc1,hc2,h4⟩:=hV;have hv:aval a r= .slice ad xs.length cap:=by simpa using hv
 have hlov:a.eval lo= .int k j:=(hf.one hlo).1;obtain⟨v1,hv1⟩:∃v1,v1=Value.slice (if cap=j then ad else ad.map (·.add (j*i.size))) (xs.length-j) (cap-j):=⟨_,rfl⟩
 have hrun1:(execOp a.eval o1).run P w= .ok (.value v1) w:=by
  unfold execOp;rw[ho1];simp only[hval,hv,Instr.sliceAt,Instr.slice,aI,run_underlying hsl w,aG,mG];have hbr:=V4 (P:=P) (w:=w) (a:=a) (lo:=some lo) (hi:=none) (isS:=true) (len:=xs.length) (cap:=cap) (.inr ⟨lo,k,j,rfl,hlov,by omega,iJ j⟩) (.inl ⟨rfl,rfl⟩) hj hc1;simp only[mG]at hbr;rw[hbr];simp only[aG,F9 hi w,aU,hv1]
 have hf1:Fits P n w0 ow0 ow (s.set u .un) (a.put (some u) v1) w:=hf.set hu trivial;have hp1:Pinned p (a.put (some u) v1):=by rw[←hd1];exact hp.put hn1
 have hev:(a.put (some u) v1).eval (.tmp u)=v1:=by simp[Act.eval,Act.put,hf.size,hu]
 have hav:aval (a.put (some u) v1) r= .slice ad xs.length cap:=by rw[CB hf.size hf.small hu,if_neg (k_Ne_symm hur),hv]
 have hs1:(s.set u .un) r= .own (.sl (some e) xs):=by
  rw[St.set];simp only[St.put,if_neg (k_Ne_symm hur)];rw[free_own (by rw[hs];rfl) (k_Ne_symm hur),hs]
 have key:∃w2 ow2,(execOp (a.put (some u) v1).eval o2).run P w= .ok (.value (.tuple #[])) w2/\Fits P n w0 ow0 ow2 (((s.set u .un).kill r).put r (.own (.sl (some e) (xs.take j++List.replicate (xs.length-j) (.any (T e).w))))) (a.put (some u) v1) w2:=by
  have hrf:r≠far0:=fun e=>by have:=hf.far;rw[←e,hs]at this;cases this
  by_cases hjl:xs.length-j=0
  ·refine⟨w,ow,?_,?_⟩
   ·exact agB ho2 hev fun ty=>by rw[hv1,hjl];exact auN hsl _ _
   ·have hxs:xs.take j++List.replicate (xs.length-j) (D.any (T e).w)=xs:=by rw[hjl];simp;exact k_List_take_of_length_le (by omega)
    rw[hxs];refine hf1.change hf1.nodef hf1.size rfl rfl rfl (k_Nat_le_refl _) (fun b _ h=>⟨rfl,h⟩) hf1.new (fun k=>k=r) (fun k _ b _ q hq=>⟨rfl,hq⟩) (fun k hk=>⟨rfl,?_⟩) ?_ (fun e=>hrf e.symm)
    ·have hkr:k≠r:=hk;simp only[St.put,if_neg hkr];rcases vH (s.set u .un) r k with h1|⟨h1,_,h2⟩
     ·exact .inl h1
     ·refine .inr ⟨h1,fun m hm=> ?_⟩;have hmr:m≠r:=by rintro rfl;exact h2 hm
      exact⟨hmr,by simp only[if_neg hmr];exact uF ((hf1.slot k).root hm) hmr⟩
    ·rintro k rfl;have:=hf1.slot k;rw[hs1]at this;simp only[St.put,if_true];exact this
  ·rcases h4 with⟨_,h4,_⟩|⟨h4,_⟩|⟨b,off,sz,C,e',fz,rfl,hb,_,h5,hrow⟩
   ·rw[h4]at hjl;simp at hjl
   ·cases h4
   obtain⟨hob,rfl,hU,rfl,hC,i',hi',his'⟩:=h5 e rfl;obtain rfl:i=i':=by rw[hi]at hi';exact k_Option_some_inj hi'
   have hcj:cap≠j:=by omega
   have hzl:zv.cells.size=i.size:=by
    have h1:=(R.zf (P:=P) (w:=w) (ow:=ow) (l:=[]) hflat).len;rw[jF,hzw,←his]at h1;exact h1
   obtain⟨vs,hvs⟩:∃vs,vs=(Builtin.zeroCells zv.cells (xs.length-j)).toList:=⟨_,rfl⟩;have hvl:vs.length=(xs.length-j)*sz:=by rw[hvs,jF,size_zeroCells,hzl,his']
   have hone:∀v∈vs,v.oneCell'=true:=fun v hv=>(R.zf (P:=P) (w:=w) (ow:=ow) (l:=[]) hflat).QW v (ai4 (by rw[←hvs];exact hv) (by rw[hzl,his];exact hew))
   have hfit:0+j*sz+0+vs.length<=C.size:=by
    rw[hvl,hC];have:=aX sz (show j+(xs.length-j)<=cap by omega);rw[k_Nat_add_mul]at this;omega
   have hst:=yR P b (0+j*sz) e fz vs 0 C w hb hU hfit hone;have hct:=R.aFS (P:=P) hb hone hob hU hC hi his' hrow hc1 hc2 hj hvl;simp only[bT,kP]at hst
   refine⟨_,ow,agB ho2 hev fun ty=>by
    rw[hv1,if_neg hcj]
    exact auO hsl (aEO hi hz) _ _ _ hjl (by
     rw[←hvs];have hadd:(⟨b,0,none⟩:Addr).add (j*i.size)=⟨b,j*sz,none⟩:=by rw[his'];unfold Addr.add;split<;>simp_all
     show(storeCells ((⟨b,0,none⟩:Addr).add (j*i.size)) vs).run P w=_;rw[hadd];exact hst),?_⟩
   have hfit':j*sz+vs.length<=C.size:=by omega
   obtain⟨hw,hb',_⟩:=Wr.setRow (o:=j*sz) (vs:=vs) hb hfit';obtain⟨e1,e2,e3,e4⟩:=arJ (w:=w) (b:=b) (C:=(C.toList.take (j*sz)++vs++C.toList.drop (j*sz+vs.length)).toArray)
   have hob2:∀k,k≠r->∀b2 q,ow b2=some (q++[k])->b2=b->False:=fun k hk b2 q hq e=>by
    rw[e,hob]at hq;have:=congrArg List.getLast? (k_Option_some_inj hq);simp at this;exact hk this.symm
   refine hf1.change hf1.nodef hf1.size e1 e2 e3 (Nat.le_of_eq e4.symm) (fun b2 hb2 ho=>⟨hw.other b2 (fun e=>by rw[e,hob]at ho;cases ho),ho⟩) (fun b2 hb2=>hf1.new b2 (by rw[e4]at hb2;exact hb2)) (fun k=>k=r) (fun k hk b2 hb2 q hq=>⟨hw.other b2 (fun e=>hob2 k hk b2 q hq e),hq⟩) (fun k hk=>⟨rfl,?_⟩) ?_ (fun e=>hrf e.symm)
   ·have hkr:k≠r:=hk;simp only[St.put,if_neg hkr];rcases vH (s.set u .un) r k with h1|⟨h1,_,h2⟩
    ·exact .inl h1
    ·refine .inr ⟨h1,fun m hm=> ?_⟩;have hmr:m≠r:=by rintro rfl;exact h2 hm
     exact⟨hmr,by simp only[if_neg hmr];exact uF ((hf1.slot k).root hm) hmr⟩
   ·rintro k rfl;simp only[St.put,if_true,SV,V];rw[hav,←his,his'];exact hct
 obtain⟨w2,ow2,hrun2,hf2⟩:=key;have hp2:∀v,Pinned p ((a.put (some u) v1).put o2.dst v):=fun v=>hp1.put hn2;unfold wpList;rw[if_pos (by simp[Region.wanted,hg1])];left;unfold Oper.wp;rw[hrun1];simp only[Oper.upon,hd1];unfold wpList;rw[if_pos (by simp[Region.wanted,hg2])];left;unfold Oper.wp;rw[hrun2];simp only[Oper.upon];unfold wpList;refine hQ _ _ _ hK ?_ (hp2 _);cases hod:o2.dst with
 |none=>exact⟨ow2,hf2⟩
 |some v=>exact⟨ow2,hf2.set (hd2 v hod).1 ⟨#[],rfl,rfl,fun k x hx=>by simp at hx⟩⟩
def aK7 [hG:xD P T] {sp:List Nat}{i:Nat}(m:Nat) {o1 o2:Oper}{t e u:Nat}
  (h:vcL P T n ops (ops.toList.take m) s (fun s1=>match evS s1 x with
   | .al r []=>(match s1 r with
    | .own (.sl (some e') xs)=>e'=e/\ZZ (evS s1 lo) fun j=>0<=j/\j<=xs.length/\u≠r/\ @PV (((s1.set u .un).kill r).put r (.own (.sl (some e) (xs.take j.toNat++List.replicate (xs.length-j.toNat) (.any (T e).w))))) ⟨K⟩
    |_=>False)
   |_=>False))
  (ho:ops.toList.drop m=[o1,o2]:=by rfl) (ho1:o1.op= .slice t x (some lo) none none:=by rfl) (ht:(T t).ty= .sl e:=by rfl) (he:(T e).ok=true:=by rfl) (hew:0<(T e).w:=by decide) (hg1:o1.guard=none:=by rfl) (hg2:o2.guard=none:=by rfl)
  (hd1:o1.dst=some u:=by rfl) (hu:u<n:=by decide) (ho2:o2.op= .call {callee:= .builtin .clear,args:= #[.tmp u],argTypes:= #[t]}:=by rfl) (hd2:o2.dst=none:=by rfl): @rO _ P T n w0 ow0 p sp ⟨.region i ops false⟩ s ⟨K⟩:=fun hd a w hR hp Q hQ=>wp_region_list (by
 have hd':qC p ops.toList=true:=hd
 have:=SK (Q:=Q) (l2:=ops.toList.drop m) (ops.toList.take m) s _ (GD hG.g _ _ _ h) (fun o ho=>qC.one hd' o (eU ho)) a w hR hp fun s' a' w' hK hR' hp'=>by
  have hn1:sU p o1=true:=qC.one hd' o1 (iY (by rw[ho];simp));have hn2:sU p o2=true:=qC.one hd' o2 (iY (by rw[ho];simp));rw[ho];split at hK
  rotate_left
  ·exact hK.elim
  rename_i r hx;split at hK
  rotate_left
  ·exact hK.elim
  rename_i e' xs hs;obtain⟨rfl,hK⟩:=hK;obtain⟨k,j,hj,h1,h2,h3,h4⟩:=CW hK;refine aAY hG.g (j:=j.toNat) ht he hew hg1 hg2 ho1 hd1 hu ho2 (fun v hv=>by rw[hd2]at hv;cases hv) h3 hx hs (by rw[hj,Int.toNat_of_nonneg h1]) (by omega) hn1 hn2 ?_ hR' hp' fun s2 a2 w2 hK2 hR2 hp2=>hQ .normal s2 a2 w2 hK2 hR2 hp2;rw[hd2];exact h4
 rwa [dL]at this)
def aH1 {o:Oper}{K:St->Prop}{t t' e:TypeId}{xs:List D}(ht:P.underlying t=some (.slice e)) (ho:o.op= .binOp .eql t x (.const (.slice none 0 0)) t') (hd:dstOk n o=true) (hx:asSl s (slotOf x) (evS s x)= .fr xs)
  (h1:xs=[]->K (s.jR o.dst (.val (.one (.bool true))))) (h2:K (s.jR o.dst (.val (.one (.bool false))))):Ok P n w0 ow0 o s K:=by
 refine iI fun a w ow hf=> ?_
 have fin:∀r:Bool,Rel P n w0 ow0 (s.jR o.dst (.val (.one (.bool r)))) (a.put o.dst (.bool r)) w:=fun r=>⟨ow,by
  cases hod:o.dst with
  |none=>exact hf
  |some t=>
   have ht:t<n:=by simpa[dstOk,hod]using hd
   exact hf.set ht (SV.A8 rfl)⟩
 have hv:=hf.asSl x;rw[hx]at hv;simp only[BV]at hv
 have hemp:∀(a0:Option Addr) m c,a.eval x= .slice a0 m c->a0=none->xs=[]:=fun a0 m c e0 hn=>by
  by_cases hne:xs=[]
  ·exact hne
  ·have h3:=BV.hdr (s:=s) (a:=a) (z:= .fr xs) (by simpa only[BV]using hv) (by simp) (by simpa[SLv.xs]using hne);obtain⟨ad,m',c',h4⟩:=h3;rw[e0,hn]at h4;cases h4
 obtain⟨ad,cap,hval,hcap,_⟩:=hv.hdr;have ev:a.eval (.const (.slice none 0 0))= .slice none 0 0:=rfl
 have e2:∀m c,(Op.equal t (.slice ad m c) (.slice none 0 0)).run P w= .ok ad.isNone w:=fun m c=>by
  unfold Op.equal Op.maxDepth Op.equalIn;rw[aI,run_underlying ht w];cases ad<;>rfl
 refine⟨.bool ad.isNone,w,?_,_,?_,fin _⟩
 ·unfold execOp;rw[ho];simp only[hval,ev];have hg:∀m c,(eqGuard .eql t x (.const (.slice none 0 0)) (.slice ad m c) (.slice none 0 0)).run P w= .ok () w:=fun m c=>rfl;simp only[aI,hg,aG,binOp,e2,aU];try rfl
 ·cases had:ad with
  |none=>exact h1 (hemp _ _ _ hval had)
  |some _=>exact h2
def aML [hG:xD P T] {sp:List Nat}{i:Nat}(m:Nat) {o:Oper}{l2:List Oper}{t t' e u:Nat}
  (h:vcL P T n ops (ops.toList.take m) s (fun s1=>∃xs,asSl s1 (slotOf x) (evS s1 x)= .fr xs/\(xs=[]->vcL P T n ops l2 (s1.set u (.val (.one (.bool true)))) (fun s3=> @PV s3 ⟨K⟩))/\vcL P T n ops l2 (s1.set u (.val (.one (.bool false)))) (fun s3=> @PV s3 ⟨K⟩)))
  (ho:ops.toList.drop m=o::l2:=by rfl) (hop:o.op= .binOp .eql t x (.const (.slice none 0 0)) t':=by rfl) (ht:(T t).ty= .sl e:=by rfl) (hg:o.guard=none:=by rfl) (hdst:o.dst=some u:=by rfl) (hu:u<n:=by decide): @rO _ P T n w0 ow0 p sp ⟨.region i ops false⟩ s ⟨K⟩:=by
 refine aM2 hG.g m ho hg h fun s1 ⟨xs,h1,h2,h3⟩=>aH1 ((hG.g t).desc ht (by simp)) hop (dstOk_of fun v hv=>by rw[hdst]at hv;cases hv;exact hu) h1 ?_ ?_
 ·rw[hdst];exact h2
 ·rw[hdst];exact h3
end
def S.al9:S->S
 | .own d=> .val d
 | .tup l=> .tup (l.map fun x=>match x with| .own d=> .val d|x=>x)
 |x=>x
def ao1 {w:World}{ow:Own}(hn:∀b,w.heap.size<=b->ow b=none):∃t,t≠far0/\∀b q,ow b≠some (q++[t]):=by
 have key:∀n,∃m,∀b,b<n->∀q t,ow b=some (q++[t])->t<m:=by
  intro n
  induction n with
  |zero=>exact⟨0,fun b hb=>by omega⟩
  |succ n ih=>
   obtain⟨m,hm⟩:=ih;cases ho:ow n with
   |none=>exact⟨m,fun b hb q t h=>by
     by_cases hbn:b=n
     ·rw[hbn,ho]at h;cases h
     ·exact hm b (by omega) q t h⟩
   |some l=>exact⟨m+l.foldl max 0+1,fun b hb q t h=>by
     by_cases hbn:b=n
     ·rw[hbn,ho]at h;obtain rfl:=k_Option_some_inj h;rw[kG];simp only[k_List_foldl_cons,List.foldl_nil];omega
     ·have:=hm b (by omega) q t h;omega⟩
 obtain⟨m,hm⟩:=key w.heap.size;refine⟨m+far0+1,by omega,fun b q h=> ?_⟩
 have hb:b<w.heap.size:=by
  by_cases hb:b<w.heap.size
  ·exact hb
  ·rw[hn b (by omega)]at h;cases h
 have:=hm b hb q _ h;omega
open Classical in
def fA.al9 {P:Program}{f:FuncId}{ds:List D}{R:S}(h:fA P f ds (fun r=>r=R)):fA P f ds (fun r=>r=R.al9):=by
 intro w ow vs t ht hL hn hsz ha;obtain⟨u,hu,hfr⟩:=ao1 hn;refine(h w ow vs u hu hL hn hsz ha).mono ?_;rintro e w' ⟨v,ow',r,rfl,rfl,hA,hp,hsv⟩
 have hF:∀l,QK w' ow' (l++[u]) (fun b=>if∃q,ow' b=some (q++[u])then none else ow' b):=fun l b _=>⟨fun ho=>by
  simp only;split
  ·rfl
  ·exact ho,fun q hq=>by
  simp only;rw[if_pos ⟨q++l,by rw[hq];simp⟩]⟩
 refine⟨v,fun b=>if∃q,ow' b=some (q++[u])then none else ow' b,_,rfl,rfl,⟨hA.os,hA.tape,hA.output,hA.size,fun b hb=>⟨(hA.old b hb).1,?_⟩,fun b hb=> ?_⟩,?_,fun s a=> ?_⟩
 ·rw[if_neg,(hA.old b hb).2];rintro⟨q,hq⟩;rw[(hA.old b hb).2]at hq;exact hfr b q hq
 ·rw[if_neg,hA.new b hb];rintro⟨q,hq⟩;rw[hA.new b hb]at hq;cases hq
 ·cases r<;>first|rfl|exact hp
 ·have hv:=hsv s a;have hno:∀b,ow' b=none->(if∃q,ow' b=some (q++[u])then none else ow' b)=none:=fun b ho=>by split;rfl;exact ho
  have hval:∀(d:D) (v:Value),V P w' ow' d.fz [] v->V P w' (fun b=>if∃q,ow' b=some (q++[u])then none else ow' b) d.fz [] v:=fun d v hv=>V.trf (fun b _ ho=>⟨rfl,hno b ho⟩) hv;cases r with
  |own d=>exact V.fz (hF []) hv
  |val d=>exact hval d v hv
  |un=>trivial
  |tup l=>
   obtain⟨ys,h1,h2,h3⟩:=hv;refine⟨ys,h1,by simpa using h2,fun k x hx=> ?_⟩;simp only[aS,aL]at hx;obtain⟨y,hy,rfl⟩:=hx;have:=h3 k y hy;cases y with
   |own d=>exact V.fz (hF [k]) this
   |val d=>exact hval d _ this
   |_=>trivial
  |rp d=>
   obtain⟨b,off,h1,h2,h3⟩:=hv;exact⟨b,off,h1,hno b h2,h3.trf (fun b _ ho=>⟨rfl,hno b ho⟩) h2⟩
  |al r p=>cases hp
  |rf r p=>cases hp
  |ag r p=>cases hp
end Go.Dv
end
section
namespace Go
def zN:= @List.flatMap_cons
end Go
end
section
namespace Go.Pl
open Go.Dv
def iT (c:UInt8):UInt8:=if 65<=c.toNat/\c.toNat<=90 then c+32 else c
def uQ (s:Str):Str:=s.map iT
def yH (c:UInt8):Bool:=(decide (97<=c.toNat)&&decide (c.toNat<=122))||(decide (65<=c.toNat)&&decide (c.toNat<=90))||(decide (48<=c.toNat)&&decide (c.toNat<=57))
def DI (c:UInt8):Str:=if yH c=true\/c.toNat=32 then[c]else if c.toNat≠39 then[32]else[]
def yF (s:Str):Str:=s.flatMap DI
def oH (s:Str)(i:Nat)(o:Str):Str:=if(s.getD i 0).toNat=32 then o else(if 0<o.length/\(s.getD (i-1) 0).toNat=32 then o++[32]else o)++[s.getD i 0]
def CJ (s:Str):Str:=loopN s.length [] (oH s)
def normal (s:Str):Str:=CJ (yF (uQ s))
variable {c:UInt8}
def aeT (h1:65<=c.toNat)(h2:c.toNat<=90):(iT c).toNat=c.toNat+32:=by
 unfold iT;rw[if_pos ⟨h1,h2⟩,UInt8.toNat_add];simp;omega
def UC (h:¬(65<=c.toNat/\c.toNat<=90):=by omega):iT c=c:=if_neg h
def BL (s:Str):(uQ s).length=s.length:=by simp[uQ]
def auY (c:UInt8):(DI c).length<=1:=by
 unfold DI;split<;>simp;split<;>simp
def E5 (s:Str):(yF s).length<=s.length:=by
 unfold yF
 induction s with
 |nil=>simp
 |cons c s ih=>have:=auY c;simp only[zN,aR,k_List_length_cons];omega
def YE (s:Str):(CJ s).length<=2*s.length:=by
 refine loopN_inv (fun i (o:Str)=>o.length<=2*i) (by simp) fun i o _ ho=> ?_;unfold oH;split
 ·omega
 ·split<;>simp<;>omega
variable {i:Nat}
def al3 {α β:Type}(f:α->List β){l:List α}{c:α}(h:l[i]?=some c):(l.take (i+1)).flatMap f=(l.take i).flatMap f++f c:=by rw[dE h];simp
def ZT {s:Str}(h:s[i]?=some c):s.getD i 0=c:=by simp[aC,h]
end Go.Pl
namespace Go.Pl
open Go.Dv
def WA (c:UInt8)(p:Str):Str->List Str
 |[]=>[p]
 |d::s=>if d=c then p::WA c [] s else WA c (p++[d]) s
def af0 (c:UInt8)(s:Str):List Str:=WA c [] s
def QZ (c:UInt8):∀(s p:Str),(WA c p s).length<=s.length+1/\∀x∈WA c p s,x.length<=p.length+s.length
 |[],p=>by simp[WA]
 |d::s,p=>by
  unfold WA;split
  ·have⟨h1,h2⟩:=QZ c s [];refine⟨by simp;omega,fun x hx=> ?_⟩;rcases aK.1 hx with rfl|hx
   ·omega
   ·have:=h2 x hx;simp at this|-;omega
  ·have⟨h1,h2⟩:=QZ c s (p++[d]);refine⟨by simp;omega,fun x hx=> ?_⟩;have:=h2 x hx;simp at this|-;omega
def aoF (c:UInt8)(s:Str):(af0 c s).length<=s.length+1/\∀x∈af0 c s,x.length<=s.length:=by
 have⟨h1,h2⟩:=QZ c s [];exact⟨h1,fun x hx=>by have:=h2 x hx;simpa using this⟩
def codeOf (d:Nat):Int:=if d=98\/d=102\/d=112\/d=118 then 1 else if d=99\/d=103\/d=106\/d=107\/d=113\/d=115\/d=120\/d=122 then 2 else if d=100\/d=116 then 3 else if d=108 then 4 else if d=109\/d=110 then 5 else if d=114 then 6 else if d=97\/d=101\/d=105\/d=111\/d=117\/d=121 then 0 else if d=104\/d=119 then -1 else -2
def aP (c:UInt8):Int:=codeOf (iT c).toNat
def aaT (c:UInt8): -2<=aP c/\aP c<=6:=by
 unfold aP codeOf;repeat(first|omega|split)
def xC (s:Str×Int)(c:UInt8):Str×Int:=if s.1=[]then([iT c],aP c)else(if aP c>0/\aP c≠s.2/\s.1.length<4 then s.1++[UInt8.ofNat (48+aP c).toNat]else s.1,if 0<=aP c then aP c else s.2)
def aeB (o:Str):Str:=o++List.replicate (4-o.length) 48
def jK (s:Str):Str:=if s=[]\/s.all (fun c=>decide (aP c≠ -2))=false then[]else aeB (s.foldl xC ([],0)).1
end Go.Pl
end
section
namespace Go
def oN:= @List.takeWhile_prefix
end Go
end
section
namespace Go.Pl
open Go.Dv
def D6 (l:List Str)(x:Str):Nat:=(l.takeWhile fun y=>ltL y x).length
def jZ (l:List Str)(x:Str)(again:Bool):List Str:=if !again&&decide (l[D6 l x]?=some x)then l else l.take (D6 l x)++[x]++l.drop (D6 l x)
def aE8 (l:List Str)(x:Str):D6 l x<=l.length:=by
 unfold D6;exact(oN _).length_le
def sW (l:List Str)(x:Str)(b:Bool):(jZ l x b).length<=l.length+1:=by
 have:=aE8 l x;unfold jZ;split
 ·omega
 ·simp;omega
def yT (t:List Str)(x:Str):List Str:=if x≠[]then jZ t x false else t
def tokens (s:Str):List Str:=(af0 32 (normal s)).foldl yT []
def arZ (t:List Str)(x:Str):(yT t x).length<=t.length+1:=by
 unfold yT;split
 ·exact sW _ _ _
 ·omega
def yO (t:List Str)(x:Str):List Str:=if jK x≠[]then jZ t (jK x) false else t
def mW (s:Str):List Str:=(tokens s).foldl yO []
def VE (c:Str):Bool:=decide (c≠[])&&c.all yH&&decide (uQ c=c)
def qV (l:List Str):Bool:=l.all VE&&adj ltL l
def xO (a b:List Str):Bool:=qV a&&qV b
def KM (b:List Str)(t:List Str)(x:Str):List Str:=if b.any (fun y=>decide (y=x))=true then jZ t x false else t
def common (a b:List Str):List Str:=a.foldl (KM b) []
def yU (t:List Str)(x:Str):List Str:=jZ t x false
def aa1 (a b:List Str):List Str:=b.foldl yU (a.foldl yU [])
def CX (a b:List Str):Int:=if xO a b=true then ratio (common a b).length (aa1 a b).length else 0
def uM (a b:List Str):Int:=if a=[]\/b=[]then 0 else CX a b
def nK (a b c:Int):Int:=if inR a 0 9999=true/\inR b 0 9999=true/\inR c 1 9999=true then(if max a b-min a b>=c then 0 else(1000*(c-(max a b-min a b))).tdiv c)else 0
def digits (s:Str):Str:=s.filter fun c=>decide (48<=c.toNat/\c.toNat<=57)
def IM {α β:Type}(f:List α->β->List α)(h:∀t x,(f t x).length<=t.length+1):∀(l:List β) (t:List α),(l.foldl f t).length<=t.length+l.length
 |[],t=>by simp
 |x::l,t=>by have:=IM f h l (f t x);have:=h t x;simp only[k_List_foldl_cons,k_List_length_cons];omega
end Go.Pl
end
section
namespace Go
def aW:= @List.drop_eq_getElem_cons
def eF:= @List.length_singleton
end Go
end
section
namespace Go.Pl
open Go.Dv
def chr (s:Str)(i:Nat):UInt8:=s.getD i 0
variable {i:Nat}
def CF {s:Str}(h:i<s.length:=by omega):s[i]?=some (chr s i):=by
 obtain⟨c,hc⟩:=aO h;rw[chr,ZT hc];exact hc
def edOne (x y:Str)(T:L2)(i:Nat)(r:L1)(j:Nat):Int:=
 if i=0 then j else if j=0 then i else if chr x (i-1)=chr y (j-1)then at2 T (i-1) (j-1)else 1+min (min (at2 T (i-1) j) (at1 r (j-1))) (at2 T (i-1) (j-1))
def xN (x y:Str)(tr:Bool)(i j:Nat):Bool:=tr&&decide (i>1)&&decide (j>1)&&decide (chr x (i-1)=chr y (j-2))&&decide (chr x (i-2)=chr y (j-1))
def ajV (x y:Str)(tr:Bool)(T:L2)(i j:Nat)(r:L1):L1:=if xN x y tr i j=true then r.set j (min (at1 r j) (at2 T (i-2) (j-2)+1))else r
def IW (x y:Str)(tr:Bool)(T:L2)(i j:Nat)(r:L1):L1:=ajV x y tr T i j (r.set j (edOne x y T i r j))
def af6 (x y:Str)(tr:Bool)(i:Nat)(T:L2):L1:=loopN (y.length+1) (List.replicate (y.length+1) 0) (IW x y tr T i)
def TV (x y:Str)(tr:Bool):L2:=loopN (x.length+1) [] fun i T=>T++[af6 x y tr i T]
def al1 (n k i:Nat)(r:L1):Prop:=r.length=n/\∀j<k,0<=at1 r j/\at1 r j<=i+j
def adA (n:Nat)(T:L2):Prop:=∀i<T.length,al1 n n i (T.getD i [])
variable {n j:Nat}
def GG {T:L2}(h:adA n T)(hi:i<T.length)(hj:j<n):∃r,T[i]?=some r/\r[j]?=some (at2 T i j)/\0<=at2 T i j/\at2 T i j<=i+j:=by
 obtain⟨r,hr⟩:=aO hi;have h1:=h i hi;rw[aC,hr]at h1;obtain⟨h2,h3⟩:=h1;simp only[Option.getD_some]at h2 h3;have h4:=aY (l:=r) (i:=j);have h5:at2 T i j=at1 r j:=by simp[at2,at1,aC,hr]
 exact⟨r,hr,by rw[h5];exact h4,by rw[h5];exact(h3 j hj).1,by rw[h5];exact(h3 j hj).2⟩
variable {r:L1}{v:Int}
def AR (k:Nat)(hj:j<r.length):at1 (r.set j v) k=if j=k then v else at1 r k:=by
 simp only[at1,aC,kH];by_cases h:j=k
 ·subst h;simp[hj]
 ·simp[h]
def YL {k:Nat}(h:al1 n k i r)(hk:k<n)(h1:0<=v)(h2:v<=i+k):al1 n (k+1) i (r.set k v):=by
 refine⟨by simp[h.1],fun j hj=> ?_⟩;rw[AR _ (by rw[h.1];exact hk)];split
 ·omega
 ·exact h.2 j (by omega)
def aiI {T:L2}(h:adA n T)(hr:al1 n n T.length r):adA n (T++[r]):=by
 intro i hi;simp only[aR,eF]at hi;rw[aC];by_cases h1:i<T.length
 ·rw[bA h1];have:=h i h1
  rwa [aC]at this
 ·obtain rfl:i=T.length:=by omega
  simp;exact hr
variable {x y:Str}
def aIU {T:L2}(hT:T.length=i)(h4:adA n T)(hr:al1 n j i r)(hj:j<n)(hi:0<=(i:Int)):0<=edOne x y T i r j/\edOne x y T i r j<=i+j:=by
 unfold edOne;split
 ·omega
 ·split
  ·omega
  ·obtain⟨q,hq,hqj,hb1,hb2⟩:=GG h4 (i:=i-1) (j:=j-1) (by omega) (by omega);obtain⟨q',hq',hqk,hb3,hb4⟩:=GG h4 (i:=i-1) (j:=j) (by omega) (by omega);have hb5:=hr.2 (j-1) (by omega);split
   ·omega
   ·omega
def axQ {tr:Bool}{T:L2}(hT:T.length=i)(h4:adA n T)(hr:al1 n j i r)(hj:j<n):al1 n (j+1) i (IW x y tr T i j r):=by
 have hve:=aIU (x:=x) (y:=y) hT h4 hr hj (by omega);have h1:=YL hr hj hve.1 hve.2;unfold IW ajV;generalize r.set j (edOne x y T i r j)=r' at h1|-
 split
 ·next hw=>
  simp only[xN,k_Bool_and_eq_true,decide_eq_true_eq]at hw;obtain⟨q,hq,hqj,hb1,hb2⟩:=GG h4 (i:=i-2) (j:=j-2) (by omega) (by omega);have hb3:=h1.2 j (by omega);exact YL ⟨h1.1,fun j' hj'=>h1.2 j' (by omega)⟩ hj (by omega) (by omega)
 ·exact h1
def af7 (x y:Str)(tr:Bool):(TV x y tr).length=x.length+1/\adA (y.length+1) (TV x y tr):=by
 refine loopN_inv (fun i (T:L2)=>T.length=i/\adA (y.length+1) T) ⟨rfl,fun i hi=>by simp at hi⟩ fun i T hi ⟨h1,h2⟩=>⟨by simp[h1],aiI h2 ?_⟩;rw[h1];exact loopN_inv (fun j r=>al1 (y.length+1) j i r) ⟨by simp,by omega⟩ fun j r hj hr=>axQ h1 h2 hr hj
def ED (x y:Str):Bool:=decide (x.length<=40)&&decide (y.length<=40)
def lU (x y:Str):Int:=if ED x y=true then at2 (TV x y false) x.length y.length else -1
def TT (x y:Str): -1<=lU x y/\lU x y<=80:=by
 unfold lU;split
 ·next h=>
  simp only[ED,k_Bool_and_eq_true,decide_eq_true_eq]at h;have h1:=af7 x y false;obtain⟨q,hq,hqj,hb1,hb2⟩:=GG h1.2 (i:=x.length) (j:=y.length) (by omega) (by omega);omega
 ·omega
def oI (x y:Str):Int:=if lU x y<0 then 0 else if max (x.length:Int) y.length=0 then 1000 else(1000*(max (x.length:Int) y.length-lU x y)).tdiv (max (x.length:Int) y.length)
def qN (x y:Str):Int:=if normal x=[]\/normal y=[]then 0 else oI (normal x) (normal y)
def NE {a b:Int}(h1: -9000000000000000000<=a:=by omega)(h:a<=9000000000000000000:=by omega):inI .i64 (a.tdiv b):=by
 have:=Int.natAbs_tdiv_le_natAbs a b;simp only[inI];omega
end Go.Pl
namespace Go.Pl
open Go.Dv
def mI (m:Nat):Str:=if h:m=0 then[]else mI (m/10)++[UInt8.ofNat (48+m % 10)]
termination_by m
decreasing_by omega
def vL {m:Nat}(h:m≠0:=by omega):mI m=mI (m/10)++[UInt8.ofNat (48+m % 10)]:=by rw[mI,dif_neg h]
def uS:mI 0=[]:=by rw[mI];simp
def zF (n:Int):Str:=if n=0 then[48]else(if n<0 then[45]else[])++mI n.natAbs
def OY (m k:Nat)(h:m<10^k):(mI m).length<=k:=by
 induction k generalizing m with
 |zero=>
  have:m=0:=by simpa using h
  subst this;simp[uS]
 |succ k ih=>
  by_cases h0:m=0
  ·subst h0;simp[uS]
  ·rw[vL h0];have:=ih (m/10) (by rw[Nat.pow_succ]at h;omega);simp;omega
end Go.Pl
namespace Go.Pl
open Go.Dv
def LD (st:Int×Int)(c:UInt8):Int×Int:=if 48<=c.toNat/\c.toNat<=57 then(st.1*10+(c.toNat-48),st.2+1)else st
def uJ (s:Str):Int×Int:=(s.take 11).foldl LD (0,0)
def mJ (s:Str):Int:=if s[0]?=some 45 then-(uJ s).1 else(uJ s).1
def nT (s:Str):Bool:=decide ((uJ s).2<=9)&&decide (s.length<=10)&&decide (zF (mJ s)=s)
def jD (s:Str):Int:=if nT s=true/\inR (mJ s) 1000 9999=true then mJ s else 0
end Go.Pl
namespace Go.Pl
open Go.Dv
def shared:Str->Str->Nat
 |a::s,b::t=>if a=b then shared s t+1 else 0
 |_,_=>0
def IB (p q:Str):Int:=
 if p.length<4\/q.length<4\/shared p.reverse q.reverse<4 then 0
 else if shared p.reverse q.reverse=p.length/\shared p.reverse q.reverse=q.length then 1000
 else if shared p.reverse q.reverse>=7\/shared p.reverse q.reverse=p.length\/shared p.reverse q.reverse=q.length then 800 else 400
def iR (x y:Str):Int:=IB (digits x) (digits y)
variable {i:Nat}
def aeZ {s:Str}(h:i<s.length:=by omega):s[s.length-1-i]?=some (chr s.reverse i):=by
 have h1:=CF (s:=s.reverse) (i:=i) (by simpa using h);rw[←h1,List.getElem?_reverse h]
variable {p q:Str}
def ac7 (hp:i<p.length)(hq:i<q.length):shared (p.drop i) (q.drop i)=if chr p i=chr q i then shared (p.drop (i+1)) (q.drop (i+1))+1 else 0:=by
 rw[aW hp,aW hq,shared];have h1:=CF hp;have h2:=CF hq;rw[aB hp]at h1;rw[aB hq]at h2;rw[k_Option_some_inj h1,k_Option_some_inj h2]
def O5 (h:p.length<=i\/q.length<=i):shared (p.drop i) (q.drop i)=0:=by
 rcases h with h|h
 ·rw[bX h];unfold shared;rfl
 ·rw[bX h];cases p.drop i<;>rfl
end Go.Pl
end
section
namespace Go.Pl
open Go.Dv
def fld (r:Rec)(i:Nat):Str:=r.fields.getD i []
def uO (x y:Str):Int:=if 0<jD x/\0<jD y then nK (jD x) (jD y) 10 else 0
def pF (a b:Rec):L1:=[qN (fld a 0) (fld b 0),uM (tokens (fld a 0)) (tokens (fld b 0)),uM (mW (fld a 0)) (mW (fld b 0)),qN (fld a 1) (fld b 1),uO (fld a 2) (fld b 2),iR (fld a 3) (fld b 3)]
def recAt (l:List Rec)(i:Nat):Rec:=l.getD i default
def UH {l:List Rec}{i:Nat}(h:i<l.length:=by omega):l[i]?=some (recAt l i):=by simp[recAt,aC,h]
def mP (l:List Rec)(rs:List (List Tst))(s:Sco)(i k:Nat):Int:=if i=k then 0 else iZ rs s (pF (recAt l (min i k)) (recAt l (max i k)))
def yV (l:List Rec)(rs:List (List Tst))(s:Sco)(i:Nat):L1:=(List.range l.length).map (mP l rs s i)
def weights (l:List Rec)(rs:List (List Tst))(s:Sco):L2:=(List.range l.length).map (yV l rs s)
variable {α:Type}
def ab1 (f:Nat->α)(k:Nat):(List.range (k+1)).map f=(List.range k).map f++[f k]:=by simp[dN]
def iE {r:Rec}(h:aV r=true):r.fields.length=4/\∀i,i<4->r.fields[i]?=some (fld r i)/\(fld r i).length<=40:=by
 simp only[aV,k_Bool_and_eq_true,decide_eq_true_eq,aH]at h;refine⟨h.2,fun i hi=> ?_⟩;have h1:r.fields[i]?=some (fld r i):=by simp[fld,aC,h.2,hi]
 refine⟨h1,?_⟩;have h2:=h.1.1.1.1 _ (aA h1);simp only[kS,isText,k_Bool_and_eq_true,decide_eq_true_eq]at h2;exact h2.2.2
def backs (p:α->Bool)(l:List α):Nat:=(l.reverse.takeWhile p).length
def gN (p:α->Bool)(l:List α)(v:α):List α:=l.take (l.length-backs p l)++[v]++l.drop (l.length-backs p l)
def anR (p:α->Bool)(l:List α):backs p l<=l.length:=by
 have:=(oN (p:=p) (l:=l.reverse)).length_le;simpa[backs]using this
def BN (p:α->Bool)(l:List α)(v:α):(gN p l v).length=l.length+1:=by
 have:=anR p l;simp[gN];omega
variable {p:α->Bool}{l:List α}{k:Nat}
def FM (hk:k<=l.length)(h1:∀j,k<=j->(h:j<l.length)->p l[j]=true)(h2:k=0\/∃c,l[k-1]?=some c/\p c=false):l.length-backs p l=k:=by
 have h3:l=l.take k++l.drop k:=(dL k l).symm;have h4:l.reverse=(l.drop k).reverse++(l.take k).reverse:=by rw[←List.reverse_append,←h3]
 have h5:∀x∈(l.drop k).reverse,p x=true:=by
  intro x hx;rw[List.mem_reverse]at hx;obtain⟨j,hj⟩:=dF hx;rw[dX]at hj;have hlt:=(aD.1 hj).1;have:=h1 (k+j) (by omega) hlt;rw[aB hlt]at hj
  rwa [k_Option_some_inj hj]at this
 have h6:((l.take k).reverse).takeWhile p=[]:=by
  rcases h2 with rfl|⟨c,hc,hp⟩
  ·simp
  ·by_cases hk0:k=0
   ·subst hk0;simp
   ·have h7:l.take k=l.take (k-1)++[c]:=by
     have:=dE hc
     rwa [show k-1+1=k by omega]at this
    rw[h7];simp[hp]
 have h8:backs p l=(l.drop k).length:=by
  unfold backs;rw[h4,List.takeWhile_append_of_pos h5,h6];simp
 rw[h8];simp;omega
def uG (v u:Ver):Bool:=decide (0<gP u v)
def iH (l:List Ver):List Ver:=l.foldl (fun out v=>gN (uG v) out v) []
def EX (v u:Ver):Bool:=decide (u.time<v.time)
def uU (l:List Ver):List Ver:=l.foldl (fun out v=>gN (EX v) out v) []
def FI (p:α->α->Bool):∀(l t:List α),(l.foldl (fun out v=>gN (p v) out v) t).length=t.length+l.length
 |[],t=>by simp
 |x::l,t=>by rw[k_List_foldl_cons,FI p l,BN];simp;omega
def ae7 (l:List Ver)(v:Ver):Nat:=(l.takeWhile fun u=>decide (gP u v<0)).length
def IQ (l:List Ver)(v:Ver):Bool:=lI l&&fQ v&& !(l.any fun y=>decide (y=v))&&decide (l.length≠8)
def BA (l:List Ver)(v:Ver):List Ver:=if IQ l v=true then l.take (ae7 l v)++[v]++l.drop (ae7 l v)else l
def aAD (l:List Ver)(v:Ver):ae7 l v<=l.length:=(oN _).length_le
def anD (hk:k<=l.length)(h1:(l.take k).all p=true)(h2:k=l.length\/∃c,l[k]?=some c/\p c=false):(l.takeWhile p).length=k:=by
 have h3:l=l.take k++l.drop k:=(dL k l).symm;have h5:∀x∈l.take k,p x=true:=aH.1 h1
 have h6:(l.drop k).takeWhile p=[]:=by
  rcases h2 with rfl|⟨c,hc,hp⟩
  ·simp
  ·have hlt:=(aD.1 hc).1;rw[aW hlt];rw[aB hlt]at hc;rw[k_Option_some_inj hc];simp[hp]
 rw[h3,List.takeWhile_append_of_pos h5,h6];simp;omega
def wL (cannot:List Ver)(st:L2×List Ver×List Ver)(v:Ver):L2×List Ver×List Ver:=
 if cannot.all (EA (qA st.1 v.a v.b))=true then(qA st.1 v.a v.b,BA (iH st.2.1) v,st.2.2)else(st.1,st.2.1,st.2.2++[v])
def LH (l:List Ver):L2×List Ver×List Ver:=(uU (wK (gY l))).foldl (wL (apart (gY l))) ([],apart (gY l),[])
def sQ (l:List Ver):List Ver:=iH (LH l).2.1
def jY (l:List Ver):List Ver:=iH (LH l).2.2
def SH (g:L2)(items:L1)(i:Nat):Option Nat:=(List.range items.length).find? fun k=>decide (i<k)&&decide (eZ g (at1 items k)=eZ g (at1 items i))
def tH (g:L2)(items:L1)(i:Nat):List Con:=if 0<=eZ g (at1 items i)then(match SH g items i with|some k=>[⟨i,k,true⟩]|none=>[])else[]
def NP (g:L2)(items:L1):List Con:=(List.range items.length).flatMap (tH g items)
def oO (kept:List Ver)(items:L1):List Con:=NP (joined kept) items++IK (apart kept) items
def ac5 (g:L2)(items:L1)(i:Nat):(tH g items i).length<=1:=by
 unfold tH;split
 ·split<;>simp
 ·simp
end Go.Pl
end
section
namespace Go
def uB:= @Int.lt_or_le
def gW:= @Int.lt_trichotomy
end Go
end
section
namespace Go.Pl
open Go.Dv
def RG (l:L1):Prop:=∀k<l.length,0<=at1 l k/\∀v,0<=v->v<at1 l k->∃j<k,at1 l j=v
variable {b:L1}
def alL {a:L1}(hl:a.length=b.length)(h:∀k<a.length,at1 a k=at1 b k):a=b:=by
 refine kF fun k=> ?_;by_cases hk:k<a.length
 ·rw[aY hk,aY,h k hk]
 ·rw[k_List_getElem__eq_none (by omega),k_List_getElem__eq_none (by omega)]
def RG.unique {a:L1}(hl:a.length=b.length)(ha:RG a)(hb:RG b)(h:∀i k,i<a.length->k<a.length->(at1 a i=at1 a k↔at1 b i=at1 b k)):a=b:=by
 refine alL hl fun k hk=> ?_
 induction k using Nat.strongRecOn with
 |_ k ih=>
  rcases gW (at1 a k) (at1 b k)with hlt|he|hlt
  ·obtain⟨j,hj,e⟩:=(hb k (by omega)).2 (at1 a k) (ha k hk).1 hlt;have h1:=ih j hj (by omega);have h2:=(h j k (by omega) hk).1 (by omega);omega
  ·exact he
  ·obtain⟨j,hj,e⟩:=(ha k hk).2 (at1 b k) (hb k (by omega)).1 hlt;have h1:=ih j hj (by omega);have h2:=(h j k (by omega) hk).2 (by omega);omega
def akV:∀(l:L1) (top:Int) (pre:L1), -1<=top->(∀v,0<=v->v<=top->∃j<pre.length,at1 pre j=v)->(∀j<pre.length,at1 pre j<=top)->RG (pre++l)->DC top l=true
 |[],_,_,_,_,_,_=>rfl
 |x::l,top,pre,ht,h1,h2,h=>by
  have hx:=h pre.length (by simp);have hat:at1 (pre++x::l) pre.length=x:=by simp[at1,aC]
  have hpre:∀j<pre.length,at1 (pre++x::l) j=at1 pre j:=fun j hj=>by simp[at1,aC,bA hj]
  rw[hat]at hx
  have hle:x<=top+1:=by
   rcases uB (top+1) x with hlt|hle
   ·by_cases h0:0<=top+1
    ·obtain⟨j,hj,e⟩:=hx.2 (top+1) h0 hlt;rw[hpre j hj]at e;have:=h2 j hj;omega
    ·by_cases hx0:x=0
     ·omega
     ·obtain⟨j,hj,e⟩:=hx.2 0 (by omega) (by omega);rw[hpre j hj]at e;have:=h2 j hj;omega
   ·exact hle
  simp only[DC,k_Bool_and_eq_true,decide_eq_true_eq];refine⟨⟨hx.1,hle⟩,akV l (max top x) (pre++[x]) (by omega) (fun v hv hvt=> ?_) (fun j hj=> ?_) (by simpa using h)⟩
  ·by_cases hvt2:v<=top
   ·obtain⟨j,hj,e⟩:=h1 v hv hvt2;exact⟨j,by simp;omega,by rw[←e];simp[at1,aC,bA hj]⟩
   ·exact⟨pre.length,by simp,by simp[at1,aC];omega⟩
  ·by_cases hj2:j<pre.length
   ·have:=h2 j hj2;have e:at1 (pre++[x]) j=at1 pre j:=by simp[at1,aC,bA hj2]
    omega
   ·obtain rfl:j=pre.length:=by simp at hj;omega
    simp[at1,aC];omega
def akU:∀(l:L1) (top:Int) (pre:L1), -1<=top->(∀v,0<=v->v<=top->∃j<pre.length,at1 pre j=v)->RG pre->DC top l=true->RG (pre++l)
 |[],_,pre,_,_,h,_=>by simpa using h
 |x::l,top,pre,ht,h1,h,hp=>by
  simp only[DC,k_Bool_and_eq_true,decide_eq_true_eq]at hp;have:=akU l (max top x) (pre++[x]) (by omega) (fun v hv hvt=> ?_) (fun k hk=> ?_) hp.2
  ·simpa using this
  ·by_cases hvt2:v<=top
   ·obtain⟨j,hj,e⟩:=h1 v hv hvt2;exact⟨j,by simp;omega,by rw[←e];simp[at1,aC,bA hj]⟩
   ·exact⟨pre.length,by simp,by simp[at1,aC];omega⟩
  ·by_cases hk2:k<pre.length
   ·have e:∀j<pre.length,at1 (pre++[x]) j=at1 pre j:=fun j hj=>by simp[at1,aC,bA hj]
    rw[e k hk2];refine⟨(h k hk2).1,fun v hv hvl=> ?_⟩;obtain⟨j,hj,e2⟩:=(h k hk2).2 v hv hvl;exact⟨j,hj,by rw[e j (by omega),e2]⟩
   ·obtain rfl:k=pre.length:=by simp at hk;omega
    have e:at1 (pre++[x]) pre.length=x:=by simp[at1,aC]
    rw[e];refine⟨hp.1.1,fun v hv hvl=> ?_⟩;obtain⟨j,hj,e2⟩:=h1 v hv (by omega);exact⟨j,hj,by rw[←e2];simp[at1,aC,bA hj]⟩
def isPart_iff {l:L1}:gD l=true↔RG l/\1<=l.length/\l.length<=8:=by
 simp only[gD,k_Bool_and_eq_true,decide_eq_true_eq];constructor
 ·rintro⟨h1,h2⟩;have:=akU l (-1) [] (by omega) (fun v h1 h2=>by omega) (fun k hk=>by simp at hk) h1;exact⟨by simpa using this,by omega⟩
 ·rintro⟨h1,h2⟩;exact⟨akV l (-1) [] (by omega) (fun v h1 h2=>by omega) (fun j hj=>by simp at hj) (by simpa using h1),by omega⟩
inductive Reach (n:Nat) (M:List (List Bool)):Nat->Nat->Prop
 |refl (i:Nat):Reach n M i i
 |step {i a b:Nat}:Reach n M i a->a<n->b<n->atB M a b=true->Reach n M i b
variable {n:Nat}{M:List (List Bool)}{i a:Nat}
def Reach.trans {b:Nat}(h:Reach n M i a)(h2:Reach n M a b):Reach n M i b:=by
 induction h2 with
 |refl=>exact h
 |step _ ha hb hm ih=>exact .step ih ha hb hm
def anJ (n:Nat)(M:List (List Bool)):Prop:=∀a b,a<n->b<n->atB M a b=true->atB M b a=true
def Reach.symm {n:Nat}{M:List (List Bool)}(hs:anJ n M){i a:Nat}(h:Reach n M i a):Reach n M a i:=by
 induction h with
 |refl=>exact .refl _
 |step _ ha hb hm ih=>exact(Reach.step (.refl _) hb ha (hs _ _ ha hb hm)).trans ih
def Reach.lt (h:Reach n M i a)(hi:i<n):a<n:=by
 induction h with
 |refl=>exact hi
 |step _ _ hb _ _=>exact hb
def Reach.mono {M':List (List Bool)}(hm:∀a b,a<n->b<n->atB M a b=true->atB M' a b=true)(h:Reach n M i a):Reach n M' i a:=by
 induction h with
 |refl=>exact .refl _
 |step _ ha hb h ih=>exact .step ih ha hb (hm _ _ ha hb h)
def GJ (n:Nat)(M:List (List Bool))(l:L1):Prop:=l.length=n/\RG l/\∀i k,i<n->k<n->(at1 l i=at1 l k↔Reach n M i k)
def GJ.unique {a:L1}(ha:GJ n M a)(hb:GJ n M b):a=b:=
 RG.unique (by rw[ha.1,hb.1]) ha.2.1 hb.2.1 fun i k hi hk=>by
  rw[ha.1]at hi hk;rw[ha.2.2 i k hi hk,hb.2.2 i k hi hk]
structure Spr (n:Nat) (M:List (List Bool)) (x:Int) (o o':L1):Prop where
 len:o'.length=o.length
 old:∀k<n,at1 o k=x->at1 o' k=x
 new:∀k<n,at1 o' k=at1 o k\/(at1 o' k=x/\∃s<n,at1 o s=x/\Reach n M s k)
variable {x:Int}
def Spr.refl (o:L1):Spr n M x o o:=⟨rfl,fun _ _ h=>h,fun _ _=> .inl rfl⟩
def Spr.trans {a c:L1}(h:Spr n M x a b)(h':Spr n M x b c):Spr n M x a c:=by
 refine⟨h'.len.trans h.len,fun k hk e=>h'.old k hk (h.old k hk e),fun k hk=> ?_⟩;rcases h'.new k hk with e|⟨e,s,hs,e2,hr⟩
 ·rw[e];exact h.new k hk
 ·refine .inr ⟨e,?_⟩;rcases h.new s hs with e3|⟨_,t,ht,e4,hr2⟩
  ·exact⟨s,hs,by omega,hr⟩
  ·exact⟨t,ht,e4,hr2.trans hr⟩
variable {o:L1}
def ae1 {b:Nat}(hl:o.length=n)(ha:a<n)(hb:b<n):Spr n M x o (spB M x a b o)/\(at1 o a=x->atB M a b=true->at1 (spB M x a b o) b=x):=by
 unfold spB;split
 ·rename_i h;have hs:=fun k=>AR (r:=o) (j:=b) (v:=x) k (by omega);refine⟨⟨by simp,fun k hk e=>by rw[hs];split<;>simp_all,fun k hk=> ?_⟩,fun _ _=>by rw[hs,if_pos rfl]⟩;rw[hs];split
  ·subst_vars;exact .inr ⟨rfl,a,ha,h.1,.step (.refl _) ha hb h.2⟩
  ·exact .inl rfl
 ·rename_i h;exact⟨.refl o,fun h1 h2=>absurd ⟨h1,h2⟩ h⟩
variable {f:Nat->L1->L1}
def UB {m:Nat}(hf:∀i o,i<m->o.length=n->Spr n M x o (f i o))(hl:o.length=n):Spr n M x o (loopN m o f):=by
 refine loopN_inv (fun _ o'=>Spr n M x o o') (.refl o) fun i o' hi h=>h.trans (hf i o' hi (h.len.trans hl))
def am5 (ha:a<n)(hl:o.length=n):Spr n M x o (spA n M x a o):=UB (fun i o hi hl=>(ae1 hl ha hi).1) hl
variable {t:Nat}
def UJ (hl:o.length=n):Spr n M x o (spS n M x t o):=UB (fun i o hi hl=>am5 hi hl) hl
def akJ {m:Nat}(hi:i<m)(R:L1->L1->Prop)(hr:∀o,R o o)(ht:∀a b c,R a b->R b c->R a c)(n:Nat)(hl:o.length=n)(hlen:∀i o,i<m->o.length=n->(f i o).length=n/\R o (f i o)):∃p,R o p/\p.length=n/\R (f i p) (loopN m o f):=by
 induction m with
 |zero=>omega
 |succ m ih=>
  have hall:∀k≤m,(loopN k o f).length=n/\R o (loopN k o f):=by
   intro k hk
   induction k with
   |zero=>exact⟨hl,hr o⟩
   |succ k ihk=>
    rw[aM];have h1:=ihk (by omega);have h2:=hlen k _ (by omega) h1.1;exact⟨h2.1,ht _ _ _ h1.2 h2.2⟩
  rw[aM];by_cases him:i=m
  ·subst him;exact⟨_,(hall i (by omega)).2,(hall i (by omega)).1,hr _⟩
  ·obtain⟨p,h1,h2,h3⟩:=ih (by omega) fun i o hi hl=>hlen i o (by omega) hl;exact⟨p,h1,h2,ht _ _ _ h3 (hlen m _ (by omega) (hall m (by omega)).1).2⟩
def aiB (hl:o.length=n)(hsame:∀k<n,at1 (spS n M x t o) k=x->at1 o k=x){b:Nat}(ha:a<n)(hb:b<n)(h1:at1 o a=x)(h2:atB M a b=true):at1 o b=x:=by
 refine hsame b hb ?_;unfold spS;obtain⟨p,hp1,hp2,hp3⟩:=akJ (f:=spA n M x) (o:=o) ha (Spr n M x) (fun o=> .refl o) (fun _ _ _=> .trans) n hl (fun i o hi hl=>⟨(am5 hi hl).len.trans hl,am5 hi hl⟩);refine hp3.old b hb ?_;unfold spA;obtain⟨q,hq1,hq2,hq3⟩:=akJ (f:=spB M x a) (o:=p) hb (Spr n M x) (fun o=> .refl o) (fun _ _ _=> .trans) n hp2 (fun i o hi hl=>⟨(ae1 hl ha hi).1.len.trans hl,(ae1 hl ha hi).1⟩);exact hq3.old b hb ((ae1 hq2 ha hb).2 (hq1.old a ha (hp1.old a ha h1)) h2)
def cnt (x:Int)(o:L1):Nat:=(List.range o.length).countP fun k=>decide (at1 o k=x)
def aJM (x:Int)(o:L1):cnt x o<=o.length:=by
 have:=List.countP_le_length (p:=fun k=>decide (at1 o k=x)) (l:=List.range o.length);simpa[cnt]using this
def abA {α:Type}{p q:α->Bool}:∀{l:List α},(∀x∈l,p x=true->q x=true)->(∃x∈l,q x=true/\p x=false)->l.countP p<l.countP q
 |[],_,h=>by obtain⟨_,h,_⟩:=h;cases h
 |y::l,hm,h=>by
  have hle:l.countP p<=l.countP q:=List.countP_mono_left fun x hx=>hm x (bC _ hx);obtain⟨x,hx,h1,h2⟩:=h;rw[List.countP_cons,List.countP_cons];rcases aK.1 hx with rfl|hx
  ·simp[h1,h2];omega
  ·have:=abA (fun x hx=>hm x (bC _ hx)) ⟨x,hx,h1,h2⟩;have:=hm y (by simp);by_cases hp:p y=true
   ·simp[hp,this hp];omega
   ·simp[hp];omega
variable {o':L1}
def cnt_lt (hl:o.length=n)(h:Spr n M x o o')(hne:¬∀k<n,at1 o' k=x->at1 o k=x):cnt x o<cnt x o':=by
 unfold cnt;rw[h.len];refine abA (fun k hk hp=> ?_) ?_
 ·have:=h.old k (by rw[←hl];exact bB.1 hk) (by simpa using hp);simpa using this
 ·rw[Classical.not_forall]at hne;obtain⟨k,hk⟩:=hne;rw[Classical.not_forall]at hk;obtain⟨hkn,hk⟩:=hk;rw[Classical.not_imp]at hk;exact⟨k,bB.2 (by omega),by simpa using hk.1,by simpa using hk.2⟩
def ai9 (hl:o.length=n)(hx:∃s<n,at1 o s=x){b:Nat}(ha:a<n)(hb:b<n)(h1:at1 (spread n M x o) a=x)(h2:atB M a b=true):at1 (spread n M x o) b=x:=by
 have hr:∀i,Spr n M x o (loopN i o (spS n M x)):=fun i=>UB (fun _ _ _ hl=>UJ hl) hl
 have key:∀i,(∃j<i,∀k<n,at1 (loopN (j+1) o (spS n M x)) k=x->at1 (loopN j o (spS n M x)) k=x)\/i+1<=cnt x (loopN i o (spS n M x)):=by
  intro i
  induction i with
  |zero=>
   refine .inr ?_;obtain⟨s,hs,e⟩:=hx;show 1<=cnt x o;unfold cnt;exact List.one_le_countP_iff.2 ⟨s,bB.2 (by omega),by simpa using e⟩
  |succ i ih=>
   rcases ih with⟨j,hj,h⟩|ih
   ·exact .inl ⟨j,by omega,h⟩
   ·by_cases hne:∀k<n,at1 (loopN (i+1) o (spS n M x)) k=x->at1 (loopN i o (spS n M x)) k=x
    ·exact .inl ⟨i,by omega,hne⟩
    ·refine .inr ?_;have hli:=(hr i).len.trans hl;have:=cnt_lt hli (by rw[aM];exact UJ (t:=i) hli) hne;omega
 rcases key n with⟨j,hj,h⟩|h
 ·-- from there on the label is closed
  have hclo:∀i,j<=i->i<=n->∀k<n,at1 (loopN i o (spS n M x)) k=x->at1 (loopN j o (spS n M x)) k=x:=by
   intro i hji hin
   induction i with
   |zero=>obtain rfl:j=0:=by omega
          exact fun k _ e=>e
   |succ i ih=>
    by_cases hji2:j=i+1
    ·subst hji2;exact fun k _ e=>e
    ·intro k hk e;have hli:=(hr i).len.trans hl;have hlj:=(hr j).len.trans hl;refine ih (by omega) (by omega) k hk ?_;rw[aM]at e;rcases(UJ (M:=M) (x:=x) (t:=i) hli).new k hk with e2|⟨e6,s,hs,e3,hre⟩
     ·rw[←e2];exact e
     ·have e4:=ih (by omega) (by omega) s hs e3;have hjc:∀a b,a<n->b<n->at1 (loopN j o (spS n M x)) a=x->atB M a b=true->at1 (loopN j o (spS n M x)) b=x:=fun a b ha hb h1 h2=>aiB (t:=j) hlj (by rw[aM]at h;exact h) ha hb h1 h2
      have e5:at1 (loopN j o (spS n M x)) k=x:=by
       clear hk e e6
       induction hre with
       |refl=>exact e4
       |step _ ha hb hm ih=>exact hjc _ _ ha hb ih hm
      have hji3:Spr n M x (loopN j o (spS n M x)) (loopN i o (spS n M x)):=by
       obtain⟨d,rfl⟩:∃d,i=j+d:=⟨i-j,by omega⟩;clear ih e e6 e3 e4 e5 hjc hre hli hin hji hji2
       induction d with
       |zero=>exact .refl _
       |succ d ih=>exact ih.trans (by rw[show j+(d+1)=(j+d)+1 by omega,aM];exact UJ ((hr _).len.trans hl))
      exact hji3.old k hk e5
  have hlj:=(hr j).len.trans hl;have e1:=hclo n (by omega) (by omega) a ha h1;have e2:=aiB (t:=j) hlj (by rw[aM]at h;exact h) ha hb e1 h2
  have hjn:Spr n M x (loopN j o (spS n M x)) (loopN n o (spS n M x)):=by
   obtain⟨d,hd⟩:∃d,n=j+d:=⟨n-j,by omega⟩
   have:∀d,Spr n M x (loopN j o (spS n M x)) (loopN (j+d) o (spS n M x)):=by
    intro d
    induction d with
    |zero=>exact .refl _
    |succ d ih=>exact ih.trans (by rw[show j+(d+1)=(j+d)+1 by omega,aM];exact UJ ((hr _).len.trans hl))
   have:=this d
   rwa [←hd]at this
  exact hjn.old b hb e2
 ·have:=aJM x (loopN n o (spS n M x));rw[(hr n).len,hl]at this;omega
def auW (hl:o.length=n):Spr n M x o (spread n M x o):=UB (fun _ _ _ hl=>UJ hl) hl
structure A9 (n:Nat) (M:List (List Bool)) (i:Nat) (s:L1×Int):Prop where
 len:s.1.length=n
 nx:0<=s.2
 lt:∀k<n, -1<=at1 s.1 k/\at1 s.1 k<s.2
 done:∀k<i,0<=at1 s.1 k
 seed:∀v,0<=v->v<s.2->∃j<i,at1 s.1 j=v
 rg:∀k<n,∀v,0<=v->v<at1 s.1 k->∃j<k,at1 s.1 j=v
 clo:∀a b,a<n->b<n->0<=at1 s.1 a->(at1 s.1 b=at1 s.1 a↔Reach n M a b)
def A9.step {n i:Nat}{M:List (List Bool)}(hs:anJ n M)(hi:i<n){s:L1×Int}(h:A9 n M i s){o:L1}(hl:o.length=n)(hx:∀k<n,(at1 o k=s.2↔Reach n M i k))(hold:∀k<n,¬Reach n M i k->at1 o k=at1 s.1 k)(h0:at1 s.1 i<0):A9 n M (i+1) (o,s.2+1):=by
 have hnone:∀k<n,Reach n M i k->at1 s.1 k= -1:=fun k hk hr=>by
  have h1:=h.lt k hk;by_cases h2:0<=at1 s.1 k
  ·have:=(h.clo k i hk hi h2).2 (hr.symm hs);omega
  ·omega
 have hge:∀k<n,Reach n M i k->i<=k:=fun k hk hr=>by
  by_cases hik:i<=k
  ·exact hik
  ·have:=h.done k (by omega);have:=hnone k hk hr;omega
 have hkeep:∀j<i,at1 o j=at1 s.1 j:=fun j hj=>hold j (by omega) fun hr=>by have:=hge j (by omega) hr;omega
 refine⟨hl,by simp only;have:=h.nx;omega,fun k hk=> ?_,fun k hk=> ?_,fun v h1 h2=> ?_,fun k hk v h1 h2=> ?_,fun a b ha hb h1=> ?_⟩
 ·simp only;by_cases hr:Reach n M i k
  ·rw[(hx k hk).2 hr];have:=h.nx;omega
  ·rw[hold k hk hr];have:=h.lt k hk;omega
 ·simp only;by_cases hr:Reach n M i k
  ·rw[(hx k (by omega)).2 hr];exact h.nx
  ·rw[hold k (by omega) hr];have:k≠i:=fun e=>hr (e▸ .refl _);exact h.done k (by omega)
 ·simp only at h2|-
  by_cases hv:v=s.2
  ·exact⟨i,by omega,by rw[hv];exact(hx i hi).2 (.refl _)⟩
  ·obtain⟨j,hj,e⟩:=h.seed v h1 (by omega);exact⟨j,by omega,by rw[hkeep j hj,e]⟩
 ·simp only at h2|-
  by_cases hr:Reach n M i k
  ·rw[(hx k hk).2 hr]at h2;obtain⟨j,hj,e⟩:=h.seed v h1 h2;have:=hge k hk hr;exact⟨j,by omega,by rw[hkeep j hj,e]⟩
  ·rw[hold k hk hr]at h2;obtain⟨j,hj,e⟩:=h.rg k hk v h1 h2;refine⟨j,hj,?_⟩;rw[hold j (by omega),e];intro hrj;have:=hnone j (by omega) hrj;omega
 ·simp only at h1|-
  by_cases hra:Reach n M i a
  ·rw[(hx a ha).2 hra];rw[hx b hb];exact⟨fun h=>(hra.symm hs).trans h,fun h=>hra.trans h⟩
  ·rw[hold a ha hra]at h1|-
   by_cases hrb:Reach n M i b
   ·rw[(hx b hb).2 hrb];have:=h.lt a ha;constructor
    ·intro e;omega
    ·intro e;exact absurd (hrb.trans (e.symm hs)) hra
   ·rw[hold b hb hrb];exact h.clo a b ha hb h1
variable {s:L1×Int}
def apP (hs:anJ n M)(hi:i<n)(h:A9 n M i s):A9 n M (i+1) (LA n M i s):=by
 unfold LA;split
 ·rename_i h0;exact⟨h.len,h.nx,h.lt,fun k hk=>by by_cases e:k=i;(subst e;exact h0);exact h.done k (by omega),fun v h1 h2=>by obtain⟨j,hj,e⟩:=h.seed v h1 h2;exact⟨j,by omega,e⟩,h.rg,h.clo⟩
 ·rename_i h0;have hil:i<s.1.length:=by rw[h.len];exact hi
  have hset:=fun k=>AR (r:=s.1) (j:=i) (v:=s.2) k hil;have hl0:(s.1.set i s.2).length=n:=by simp[h.len]
  have hsp:=auW (M:=M) (x:=s.2) hl0;have hcl:=fun a b ha hb=>ai9 (M:=M) (x:=s.2) hl0 ⟨i,hi,by rw[hset,if_pos rfl]⟩ (a:=a) (b:=b) ha hb
  have hseed:∀k<n,(at1 (s.1.set i s.2) k=s.2↔k=i):=fun k hk=>by
   rw[hset];split
   ·simp_all
   ·rename_i hne;have:=h.lt k hk;constructor
    ·intro e;omega
    ·intro e;exact absurd e.symm hne
  have hx:∀k<n,(at1 (spread n M s.2 (s.1.set i s.2)) k=s.2↔Reach n M i k):=fun k hk=>by
   constructor
   ·intro e;rcases hsp.new k hk with e2|⟨_,t,ht,e3,hr⟩
    ·obtain rfl:=(hseed k hk).1 (by omega);exact .refl _
    ·obtain rfl:=(hseed t ht).1 e3;exact hr
   ·intro hr;clear hk
    induction hr with
    |refl=>exact hsp.old i hi ((hseed i hi).2 rfl)
    |step _ ha hb hm ih=>exact hcl _ _ ha hb ih hm
  have hold:∀k<n,¬Reach n M i k->at1 (spread n M s.2 (s.1.set i s.2)) k=at1 s.1 k:=fun k hk hn=>by
   rcases hsp.new k hk with e2|⟨e,_⟩
   ·rw[e2,hset,if_neg];rintro rfl;exact hn (.refl _)
   ·exact absurd ((hx k hk).1 e) hn
  exact h.step hs hi (by rw[hsp.len,hl0]) hx hold (by omega)
def A9.start :A9 n M 0 (List.replicate n (-1),0):=by
 have hrep:∀k<n,at1 (List.replicate n (-1)) k= -1:=fun k hk=>by simp[at1,aC,hk]
 exact⟨by simp,by simp,fun k hk=>by simp only;rw[hrep k hk];omega,fun k hk=>by omega,fun v h1 h2=>by simp only at h2;omega,fun k hk v h1 h2=>by simp only at h2;rw[hrep k hk]at h2;omega,fun a b ha hb h1=>by simp only at h1;rw[hrep a ha]at h1;omega⟩
def A9.is (h:A9 n M n s):GJ n M s.1:=by
 refine⟨h.len,fun k hk=>⟨h.done k (by rw[h.len]at hk;exact hk),h.rg k (by rw[h.len]at hk;exact hk)⟩,fun i k hi hk=> ?_⟩;rw[eq_comm];exact h.clo i k hi hk (h.done i hi)
def aeS (hs:anJ n M):GJ n M (apQ n M).1:=
 A9.is (s:=apQ n M) (loopN_inv (A9 n M) .start fun i s hi h=>apP hs hi h)
def dfs (n:Nat)(m:L2)(c:Int):Nat->Nat->L1->L1
 |0,_,o=>o
 |f+1,i,o=>loopN n (o.set i c) fun k o=>if 0<at2 m i k/\at1 o k<0 then dfs n m c f k o else o
def OA (n:Nat)(m:L2)(i:Nat)(s:L1×Int):L1×Int:=if at1 s.1 i<0 then(dfs n m s.2 n i s.1,s.2+1)else s
def aeM (n:Nat)(m:L2):L1×Int:=loopN n (List.replicate n (-1),0) (OA n m)
def negs (n:Nat)(o:L1):Nat:=(List.range n).countP fun k=>decide (at1 o k<0)
def akN (h:∀k<n,0<=at1 o k->0<=at1 o' k):negs n o'<=negs n o:=
 List.countP_mono_left fun k hk hp=>by
  have:=h k (bB.1 hk);simp only[decide_eq_true_eq]at hp|-
  omega
variable {c:Int}
def aaD (hl:o.length=n)(hi:i<n)(h:at1 o i<0)(hc:0<=c):negs n (o.set i c)<negs n o:=by
 have hs:=fun k=>AR (r:=o) (j:=i) (v:=c) k (by omega);refine abA (fun k hk hp=> ?_) ⟨i,bB.2 hi,by simpa using h,?_⟩
 ·simp only[decide_eq_true_eq]at hp|-
  rw[hs]at hp;split at hp<;>omega
 ·rw[hs,if_pos rfl];simp;omega
def av9 (n:Nat)(o:L1):negs n o<=n:=by
 have:=List.countP_le_length (p:=fun k=>decide (at1 o k<0)) (l:=List.range n);simpa[negs]using this
structure Dfs (n:Nat) (M:List (List Bool)) (c:Int) (i:Nat) (o o':L1):Prop where
 len:o'.length=n
 keep:∀k<n,0<=at1 o k->at1 o' k=at1 o k
 new:∀k<n,at1 o' k=at1 o k\/(at1 o k<0/\at1 o' k=c/\Reach n M i k)
 self:at1 o' i=c
 clo:∀a b,a<n->b<n->at1 o a<0->at1 o' a=c->atB M a b=true->0<=at1 o' b
def aLA (n:Nat)(M:List (List Bool))(c:Int)(i:Nat)(o:L1)(j:Nat)(p:L1):Prop:=
 p.length=n/\(∀k<n,0<=at1 o k->at1 p k=at1 o k)/\(∀k<n,at1 p k=at1 o k\/(at1 o k<0/\at1 p k=c/\Reach n M i k))/\at1 p i=c/\(∀k<n,0<=at1 (o.set i c) k->0<=at1 p k)/\
    (∀a b,a<n->b<n->at1 o a<0->at1 p a=c->atB M a b=true->(a=i->b<j)->0<=at1 p b)
variable {m:L2}
def aA6 (hM:∀a b,a<n->b<n->(0<at2 m a b↔atB M a b=true))(hc:0<=c):∀(f i:Nat) (o:L1),o.length=n->i<n->at1 o i<0->negs n o<=f->Dfs n M c i o (dfs n m c f i o)
 |0,i,o,hl,hi,h0,hf=>by
  have:=aaD hl hi h0 hc;omega
 |f+1,i,o,hl,hi,h0,hf=>by
  have hs:=fun k=>AR (r:=o) (j:=i) (v:=c) k (by omega);have hng:=aaD hl hi h0 hc
  have key:∀j≤n,aLA n M c i o j (loopN j (o.set i c) fun k o=>if 0<at2 m i k/\at1 o k<0 then dfs n m c f k o else o):=by
   intro j hj;refine loopN_inv (n:=j) (f:=fun k o=>if 0<at2 m i k/\at1 o k<0 then dfs n m c f k o else o) (aLA n M c i o) ?_ fun t p ht hp=> ?_
   ·refine⟨by simp[hl],fun k hk h=> ?_,fun k hk=> ?_,by rw[hs,if_pos rfl],fun k hk h=>h,fun a b ha hb h1 h2 h3 h4=> ?_⟩
    ·rw[hs,if_neg];rintro rfl;omega
    ·rw[hs];split
     ·subst_vars;exact .inr ⟨h0,rfl,.refl _⟩
     ·exact .inl rfl
    ·rw[hs]at h2;split at h2
     ·rename_i e;exact absurd (h4 e.symm) (by omega)
     ·omega
   ·obtain⟨p1,p2,p3,p4,p5,p6⟩:=hp;split
    ·rename_i hcd;have hng2:negs n p<=f:=by have:=akN (n:=n) p5;omega
     have hd:=aA6 hM hc f t p p1 (by omega) hcd.2 hng2;have hit:Reach n M i t:= .step (.refl _) hi (by omega) ((hM i t hi (by omega)).1 hcd.1);refine⟨hd.len,fun k hk h=> ?_,fun k hk=> ?_,?_,fun k hk h=> ?_,fun a b ha hb h1 h2 h3 h4=> ?_⟩
     ·rw[hd.keep k hk (by rw[p2 k hk h];exact h),p2 k hk h]
     ·rcases hd.new k hk with e|⟨e1,e2,e3⟩
      ·rw[e];exact p3 k hk
      ·refine .inr ⟨?_,e2,hit.trans e3⟩;rcases p3 k hk with e4|⟨e4,_⟩
       ·omega
       ·exact e4
     ·rw[hd.keep i hi (by omega),p4]
     ·rw[hd.keep k hk (p5 k hk h)];exact p5 k hk h
     ·by_cases hpa:at1 p a=c
      ·-- it had its label before
       by_cases hai:a=i
       ·by_cases hbt:b=t
        ·subst hbt;rw[hd.self];exact hc
        ·have hb2:=p6 a b ha hb h1 hpa h3 (fun e=>by have:=h4 e;omega);rw[hd.keep b hb hb2];exact hb2
       ·have hb2:=p6 a b ha hb h1 hpa h3 (fun e=>absurd e hai);rw[hd.keep b hb hb2];exact hb2
      ·have hpa0:at1 p a<0:=by
        rcases p3 a ha with e|⟨_,e,_⟩
        ·omega
        ·exact absurd e hpa
       exact hd.clo a b ha hb hpa0 h2 h3
    ·rename_i hcd;refine⟨p1,p2,p3,p4,p5,fun a b ha hb h1 h2 h3 h4=> ?_⟩;by_cases hai:a=i
     ·by_cases hbt:b=t
      ·subst hbt;by_cases h5:0<=at1 p b
       ·exact h5
       ·exact absurd ⟨(hM i b hi hb).2 (hai▸h3),by omega⟩ hcd
      ·exact p6 a b ha hb h1 h2 h3 (fun e=>by have:=h4 e;omega)
     ·exact p6 a b ha hb h1 h2 h3 (fun e=>absurd e hai)
  obtain⟨p1,p2,p3,p4,p5,p6⟩:=key n (k_Nat_le_refl n);exact⟨p1,p2,p3,p4,fun a b ha hb h1 h2 h3=>p6 a b ha hb h1 h2 h3 fun _=>hb⟩
def aoN (hM:∀a b,a<n->b<n->(0<at2 m a b↔atB M a b=true))(hs:anJ n M)(hi:i<n)(h:A9 n M i s):A9 n M (i+1) (OA n m i s):=by
 unfold OA;split
 ·rename_i h0;have hd:=aA6 hM h.nx n i s.1 h.len hi h0 (av9 _ _)
  have hx:∀k<n,(at1 (dfs n m s.2 n i s.1) k=s.2↔Reach n M i k):=fun k hk=>by
   constructor
   ·intro e;rcases hd.new k hk with e2|⟨_,_,hr⟩
    ·have:=h.lt k hk;omega
    ·exact hr
   ·intro hr;clear hk
    induction hr with
    |refl=>exact hd.self
    | @step a b _ ha hb hm ih=>
     have hla:=h.lt a ha
     have ha0:at1 s.1 a<0:=by
      rcases hd.new a ha with e2|⟨e,_⟩
      ·omega
      ·exact e
     have hb1:=hd.clo a b ha hb ha0 ih hm;rcases hd.new b hb with e2|⟨_,e,_⟩
     ·exfalso;have:=(h.clo b a hb ha (by omega)).2 (.step (.refl _) hb ha (hs _ _ ha hb hm));omega
     ·exact e
  refine h.step hs hi hd.len hx (fun k hk hr=> ?_) h0;rcases hd.new k hk with e|⟨_,_,e⟩
  ·exact e
  ·exact absurd e hr
 ·rename_i h0;exact⟨h.len,h.nx,h.lt,fun k hk=>by by_cases e:k=i;(subst e;omega);exact h.done k (by omega),fun v h1 h2=>by obtain⟨j,hj,e⟩:=h.seed v h1 h2;exact⟨j,by omega,e⟩,h.rg,h.clo⟩
def asW (hM:∀a b,a<n->b<n->(0<at2 m a b↔atB M a b=true))(hs:anJ n M):GJ n M (aeM n m).1:=
 A9.is (s:=aeM n m) (loopN_inv (A9 n M) .start fun i s hi h=>aoN hM hs hi h)
def aA4 (hM:∀a b,a<n->b<n->(0<at2 m a b↔atB M a b=true))(hs:anJ n M):(aeM n m).1=(apQ n M).1:=(asW hM hs).unique (aeS hs)
end Go.Pl
end
section
namespace Go
def oC:= @Nat.add_sub_cancel
end Go
end
section
namespace Go.Pl
open Go.Dv
def ed (x y:Str)(tr:Bool):Nat->Nat->Int
 |0,j=>j
 |i+1,0=>(i+1:Nat)
 |i+1,j+1=>
  if xN x y tr (i+1) (j+1)=true then min (if chr x i=chr y j then ed x y tr i j else 1+min (min (ed x y tr i (j+1)) (ed x y tr (i+1) j)) (ed x y tr i j)) (ed x y tr (i-1) (j-1)+1)
  else if chr x i=chr y j then ed x y tr i j else 1+min (min (ed x y tr i (j+1)) (ed x y tr (i+1) j)) (ed x y tr i j)
termination_by i j=>i+j
decreasing_by all_goals omega
variable {i:Nat}
section
variable {x y:Str}{tr:Bool}
def ed_zero (j:Nat):ed x y tr 0 j=j:=by rw[ed]
def ed_zero' (i:Nat):ed x y tr i 0=i:=by cases i<;>simp[ed]
def edV (x y:Str)(tr:Bool)(i j:Nat):Int:=if chr x i=chr y j then ed x y tr i j else 1+min (min (ed x y tr i (j+1)) (ed x y tr (i+1) j)) (ed x y tr i j)
def FD (i j:Nat):ed x y tr (i+1) (j+1)=if xN x y tr (i+1) (j+1)=true then min (edV x y tr i j) (ed x y tr (i-1) (j-1)+1)else edV x y tr i j:=by rw[ed];rfl
def aJQ:∀(s i j:Nat),i+j=s->ed x y tr i (j+1)<=ed x y tr i j+1/\ed x y tr i j<=ed x y tr i (j+1)+1/\ed x y tr (i+1) j<=ed x y tr i j+1/\ed x y tr i j<=ed x y tr (i+1) j+1/\ed x y tr (i+1) (j+1)<=ed x y tr i j+1:=by
 intro s
 induction s using Nat.strongRecOn with
 |_ s ih=>
  intro i j hs
  have hsw:∀i j,xN x y tr (i+1) (j+1)=true->∃i' j',i=i'+1/\j=j'+1:=fun i j h=>by
   simp only[xN,k_Bool_and_eq_true,decide_eq_true_eq]at h;exact⟨i-1,j-1,by omega,by omega⟩
  have hE:ed x y tr (i+1) (j+1)<=ed x y tr i j+1:=by
   rw[FD];unfold edV;split<;>split<;>omega
  refine⟨?_,?_,?_,?_,hE⟩
  ·cases i with
   |zero=>rw[ed_zero,ed_zero];omega
   |succ i=>
    have h1:=ih (i+j) (by omega) i j rfl;rw[FD];unfold edV;split<;>split<;>omega
  ·cases i with
   |zero=>rw[ed_zero,ed_zero];omega
   |succ i=>
    have h1:=ih (i+j) (by omega) i j rfl;rw[FD];unfold edV;split
    ·rename_i h;obtain⟨i',j',rfl,rfl⟩:=hsw i j h;have h2:=ih (i'+j') (by omega) i' j' rfl;simp only[oC];split<;>omega
    ·split<;>omega
  ·cases j with
   |zero=>rw[ed_zero',ed_zero'];omega
   |succ j=>
    have h1:=ih (i+j) (by omega) i j rfl;rw[FD];unfold edV;split<;>split<;>omega
  ·cases j with
   |zero=>rw[ed_zero',ed_zero'];omega
   |succ j=>
    have h1:=ih (i+j) (by omega) i j rfl;rw[FD];unfold edV;split
    ·rename_i h;obtain⟨i',j',rfl,rfl⟩:=hsw i j h;have h2:=ih (i'+j') (by omega) i' j' rfl;simp only[oC];split<;>omega
    ·split<;>omega
def aJR (i j:Nat):min (min (ed x y tr i (j+1)+1) (ed x y tr (i+1) j+1)) (ed x y tr i j+if chr x i=chr y j then 0 else 1)=edV x y tr i j:=by
 have h:=aJQ (x:=x) (y:=y) (tr:=tr) (i+j) i j rfl;unfold edV;split<;>omega
def edR (x y:Str)(tr:Bool)(i k:Nat):L1:=(List.range k).map (ed x y tr i)
def avB {k j:Nat}(h:j<k):at1 (edR x y tr i k) j=ed x y tr i j:=by simp[at1,edR,aC,h]
def aeK {n k j:Nat}(hi:i<n:=by omega)(h:j<k:=by omega):at2 ((List.range n).map fun i=>edR x y tr i k) i j=ed x y tr i j:=by
 have:=avB (x:=x) (y:=y) (tr:=tr) (i:=i) h;simpa[at2,at1,aC,hi]using this
def aBB :af6 x y tr i ((List.range i).map fun i=>edR x y tr i (y.length+1))=edR x y tr i (y.length+1):=by
 have h:(fun(j:Nat) (r:L1)=>r.length=y.length+1/\∀k<j,at1 r k=ed x y tr i k) (y.length+1) (af6 x y tr i ((List.range i).map fun i=>edR x y tr i (y.length+1))):=by
  refine loopN_inv (fun(j:Nat) (r:L1)=>r.length=y.length+1/\∀k<j,at1 r k=ed x y tr i k) ⟨by simp,by omega⟩ fun j r hj ⟨h1,h2⟩=> ?_
  have h3:edOne x y ((List.range i).map fun i=>edR x y tr i (y.length+1)) i r j=(if i=0 then(j:Int)else if j=0 then(i:Int)else edV x y tr (i-1) (j-1)):=by
   unfold edOne;split
   ·rfl
   ·split
    ·rfl
    ·obtain⟨i,rfl⟩:∃k,i=k+1:=⟨i-1,by omega⟩;obtain⟨j,rfl⟩:∃k,j=k+1:=⟨j-1,by omega⟩;simp only[oC];rw[aeK,aeK,h2 j (by omega)];rfl
  unfold IW ajV;have hset:=AR (r:=r) (j:=j) (v:=edOne x y ((List.range i).map fun i=>edR x y tr i (y.length+1)) i r j);split
  ·rename_i hw;have hw2:=hw;simp only[xN,k_Bool_and_eq_true,decide_eq_true_eq]at hw2;refine⟨by simp[h1],fun k hk=> ?_⟩;rw[AR _ (by simp;omega),hset _ (by omega),hset _ (by omega),if_pos rfl];split
   ·rename_i e;subst e;rw[h3,if_neg (by omega),if_neg (by omega),aeK];obtain⟨i,rfl⟩:∃k,i=k+2:=⟨i-2,by omega⟩;obtain⟨j,rfl⟩:∃k,j=k+2:=⟨j-2,by omega⟩;rw[FD,if_pos hw];rfl
   ·exact h2 k (by omega)
  ·rename_i hw;refine⟨by simp[h1],fun k hk=> ?_⟩;rw[hset _ (by omega)];split
   ·rename_i e;subst e;rw[h3];split
    ·rename_i e;rw[e,ed_zero]
    ·split
     ·rename_i e;rw[e,ed_zero']
     ·obtain⟨i,rfl⟩:∃k,i=k+1:=⟨i-1,by omega⟩;obtain⟨j,rfl⟩:∃k,j=k+1:=⟨j-1,by omega⟩;rw[FD,if_neg hw];rfl
   ·exact h2 k (by omega)
 have h1:(af6 x y tr i ((List.range i).map fun i=>edR x y tr i (y.length+1))).length=y.length+1:=h.1;refine alL (by rw[h1];simp[edR]) fun k hk=> ?_;rw[h1]at hk;rw[h.2 k hk,avB hk]
def asY:TV x y tr=(List.range (x.length+1)).map fun i=>edR x y tr i (y.length+1):=by
 refine loopN_inv (fun i (T:L2)=>T=(List.range i).map fun i=>edR x y tr i (y.length+1)) rfl fun i T _ h=> ?_;rw[h,aBB,ab1]
def abC:lU x y=if ED x y=true then ed x y false x.length y.length else -1:=by
 unfold lU;rw[asY,aeK]
def asZ (i j:Nat):0<=ed x y tr i j/\ed x y tr i j<=i+j:=by
 suffices∀s i j,i+j=s->0<=ed x y tr i j/\ed x y tr i j<=i+j from this _ i j rfl
 intro s
 induction s using Nat.strongRecOn with
 |_ s ih=>
  intro i j hs;cases i with
  |zero=>rw[ed_zero];omega
  |succ i=>
   cases j with
   |zero=>rw[ed_zero'];omega
   |succ j=>
    have h1:=ih (i+j) (by omega) i j rfl;have h2:=ih (i+(j+1)) (by omega) i (j+1) rfl;have h3:=ih (i+1+j) (by omega) (i+1) j rfl;have h4:=ih (i-1+(j-1)) (by omega) (i-1) (j-1) rfl;rw[FD];unfold edV;split<;>split<;>omega
end
end Go.Pl
end
section
namespace Go
def pU:= @List.Pairwise.filter
def zM:= @List.filter_congr
def rR:= @List.filter_cons_of_neg
def nE:= @List.filter_cons_of_pos
def sP:= @List.filter_eq_nil_iff
def nG:= @List.getElem?_cons_succ
def bQ:= @List.mem_filter
def dY:= @List.pairwise_cons
def rG:= @List.takeWhile_cons
def pG:= @Nat.lt_trichotomy
end Go
end
section
namespace Go.Pl
open Go.Dv
def kI:∀(a:Str),ltL a a=false
 |[]=>rfl
 |a::x=>by have h:=kI x;unfold ltL at*;rw[Op.bytesLess,h];simp
def BP:∀{a b c:Str},ltL a b=true->ltL b c=true->ltL a c=true
 |_,[],_,h,_=>by unfold ltL at h;rw[Op.bytesLess]at h;cases h
 |_,_::_,[],_,h=>by unfold ltL at h;rw[Op.bytesLess]at h;cases h
 |[],_::_,_::_,_,_=>by unfold ltL;rw[Op.bytesLess]
 |a::x,b::y,c::z,h,h'=>by
  unfold ltL at*
  rw[Op.bytesLess]at*
  simp only[bN,decide_eq_true_eq,k_Bool_and_eq_true,beq_iff_eq]at*
  rcases h with h|⟨rfl,h⟩
  ·rcases h' with h'|⟨rfl,h'⟩
   ·exact .inl (UInt8.lt_trans h h')
   ·exact .inl h
  ·rcases h' with h'|⟨rfl,h'⟩
   ·exact .inl h'
   ·exact .inr ⟨rfl,BP h h'⟩
def H9:∀(a b:Str),ltL a b=true\/a=b\/ltL b a=true
 |[],[]=> .inr (.inl rfl)
 |[],_::_=> .inl (by unfold ltL;rw[Op.bytesLess])
 |_::_,[]=> .inr (.inr (by unfold ltL;rw[Op.bytesLess]))
 |a::x,b::y=>by
  unfold ltL;rw[Op.bytesLess,Op.bytesLess];simp only[bN,decide_eq_true_eq,k_Bool_and_eq_true,beq_iff_eq];rcases pG a.toNat b.toNat with h|h|h
  ·exact .inl (.inl (UInt8.lt_iff_toNat_lt.2 h))
  ·obtain rfl:=k_UInt8_toNat_inj.1 h;rcases H9 x y with h|rfl|h
   ·exact .inl (.inr ⟨rfl,h⟩)
   ·exact .inr (.inl rfl)
   ·exact .inr (.inr (.inr ⟨rfl,h⟩))
  ·exact .inr (.inr (.inl (UInt8.lt_iff_toNat_lt.2 h)))
def ET {a b:Str}(h:ltL a b=true):ltL b a=false:=by
 cases h2:ltL b a with
 |false=>rfl
 |true=>have:=BP h h2;rw[kI]at this;cases this
abbrev Asc (l:List Str):Prop:=l.Pairwise fun a b=>ltL a b=true
def X7:∀{l:List Str},adj ltL l=true↔Asc l
 |[]=>by simp
 |[a]=>by simp[adj]
 |a::b::l=>by
  have ih:=X7 (l:=b::l);simp only[adj,k_Bool_and_eq_true,ih,dY,aK];constructor
  ·rintro⟨h1,h2,h3⟩;refine⟨fun x hx=> ?_,h2,h3⟩;rcases hx with rfl|hx
   ·exact h1
   ·exact BP h1 (h2 x hx)
  ·rintro⟨h1,h2,h3⟩;exact⟨h1 b (.inl rfl),h2,h3⟩
def Asc.unique:∀{a b:List Str},Asc a->Asc b->(∀x,x∈a↔x∈b)->a=b
 |[],[],_,_,_=>rfl
 |[],y::_,_,_,h=>by have:=(h y).2 (by simp);cases this
 |x::_,[],_,_,h=>by have:=(h x).1 (by simp);cases this
 |x::a,y::b,ha,hb,h=>by
  obtain⟨ha1,ha2⟩:=dY.1 ha;obtain⟨hb1,hb2⟩:=dY.1 hb
  have hxy:x=y:=by
   rcases H9 x y with h1|h1|h1
   ·rcases aK.1 ((h x).1 (by simp))with e|e
    ·exact e
    ·have:=ET (hb1 x e);rw[h1]at this;cases this
   ·exact h1
   ·rcases aK.1 ((h y).2 (by simp))with e|e
    ·exact e.symm
    ·have:=ET (ha1 y e);rw[h1]at this;cases this
  subst hxy;congr 1;refine Asc.unique ha2 hb2 fun z=> ?_;have hz:=h z;constructor
  ·intro hm;rcases aK.1 (hz.1 (bC _ hm))with e|e
   ·subst e;have:=ha1 z hm;rw[kI]at this;cases this
   ·exact e
  ·intro hm;rcases aK.1 (hz.2 (bC _ hm))with e|e
   ·subst e;have:=hb1 z hm;rw[kI]at this;cases this
   ·exact e
def TH (y:Str)(l:List Str)(x:Str):jZ (y::l) x false=if ltL y x=true then y::jZ l x false else if y=x then y::l else x::y::l:=by
 unfold jZ D6;by_cases h:ltL y x=true
 ·simp only[rG,h,if_true,k_List_length_cons,nG,jG,List.drop_succ_cons,fZ];split<;>simp_all
 ·simp only[rG,h,if_false,dV,jI,List.getElem?_cons_zero,List.take_zero,List.drop_zero,aJ];split
  ·simp_all
  ·simp_all
def DL:∀{l:List Str}{x z:Str},z∈jZ l x false↔z∈l\/z=x
 |[],x,z=>by simp[jZ,D6]
 |y::l,x,z=>by
  rw[TH];split
  ·rw[aK,DL (l:=l),aK,or_assoc]
  ·split
   ·subst_vars
    constructor
    ·exact .inl
    ·rintro(h|rfl)
     ·exact h
     ·simp
   ·simp only[aK];constructor
    ·rintro(h|h|h)<;>simp[h]
    ·rintro((h|h)|h)<;>simp[h]
def XZ:∀{l:List Str}{x:Str},Asc l->Asc (jZ l x false)
 |[],x,_=>by simp[jZ,D6]
 |y::l,x,h=>by
  obtain⟨h1,h2⟩:=dY.1 h;rw[TH];split
  ·rename_i hlt;refine dY.2 ⟨fun z hz=> ?_,XZ h2⟩;rcases DL.1 hz with hz|rfl
   ·exact h1 z hz
   ·exact hlt
  ·split
   ·exact h
   ·rename_i h3 h4
    have hxy:ltL x y=true:=by
     rcases H9 x y with e|e|e
     ·exact e
     ·exact absurd e.symm h4
     ·exact absurd e h3
    refine dY.2 ⟨fun z hz=> ?_,h⟩;rcases aK.1 hz with rfl|hz
    ·exact hxy
    ·exact BP hxy (h1 z hz)
def NA {f:List Str->Str->List Str}{p:Str->Prop}{g:Str->Str}(hp:∀t x,p x->f t x=jZ t (g x) false)(hn:∀t x,¬p x->f t x=t):∀(l t:List Str),Asc t->Asc (l.foldl f t)/\∀z,z∈l.foldl f t↔z∈t\/∃x∈l,p x/\z=g x
 |[],t,h=>⟨h,fun z=>by simp⟩
 |y::l,t,h=>by
  by_cases hy:p y
  ·obtain⟨h1,h2⟩:=NA hp hn l _ (XZ (x:=g y) h);simp only[k_List_foldl_cons,hp t y hy];refine⟨h1,fun z=> ?_⟩;rw[h2,DL];simp only[aK,exists_eq_or_imp,hy,true_and,or_assoc]
  ·obtain⟨h1,h2⟩:=NA hp hn l t h;simp only[k_List_foldl_cons,hn t y hy];refine⟨h1,fun z=> ?_⟩;rw[h2];simp only[aK,exists_eq_or_imp,hy,false_and,false_or]
def X0 (s:Str):Asc (tokens s)/\∀z,z∈tokens s↔z∈af0 32 (normal s)/\z≠[]:=by
 obtain⟨h1,h2⟩:=NA (f:=yT) (p:=fun x=>x≠[]) (g:=id) (fun t x h=>if_pos h) (fun t x h=>if_neg h) (af0 32 (normal s)) [] .nil;refine⟨h1,fun z=>(h2 z).trans ?_⟩;constructor
 ·rintro(h|⟨x,h3,h4,rfl⟩)
  ·cases h
  ·exact⟨h3,h4⟩
 ·rintro⟨h3,h4⟩;exact .inr ⟨z,h3,h4,rfl⟩
def VV (s:Str):Asc (mW s)/\∀z,z∈mW s↔∃t∈tokens s,jK t≠[]/\z=jK t:=by
 obtain⟨h1,h2⟩:=NA (f:=yO) (p:=fun x=>jK x≠[]) (g:=jK) (fun t x h=>if_pos h) (fun t x h=>if_neg h) (tokens s) [] .nil;exact⟨h1,fun z=>(h2 z).trans (by simp)⟩
def LU (b:List Str)(x:Str):Bool:=b.any fun y=>decide (y=x)
def hasL_iff {b:List Str}{x:Str}:LU b x=true↔x∈b:=by simp[LU]
def afW (a b:List Str):Asc (common a b)/\∀z,z∈common a b↔z∈a/\z∈b:=by
 obtain⟨h1,h2⟩:=NA (f:=KM b) (p:=fun x=>LU b x=true) (g:=id) (fun t x h=>if_pos h) (fun t x h=>if_neg h) a [] .nil;refine⟨h1,fun z=>(h2 z).trans ?_⟩;constructor
 ·rintro(h|⟨x,h3,h4,rfl⟩)
  ·cases h
  ·exact⟨h3,hasL_iff.1 h4⟩
 ·rintro⟨h3,h4⟩;exact .inr ⟨z,h3,hasL_iff.2 h4,rfl⟩
def mcount:List Str->List Str->Nat
 |[],_=>0
 |_::_,[]=>0
 |a::x,b::y=>if ltL a b=true then mcount x (b::y)else if ltL b a=true then mcount (a::x) y else mcount x y+1
termination_by x y=>x.length+y.length
def aoU {a:List Str}{p:Str->Bool}(h:∀x∈a,p x=false):a.filter p=[]:=sP.2 fun x hx=>by simp[h x hx]
def UD:∀{a b:List Str},Asc a->Asc b->mcount a b=(a.filter (LU b)).length
 |[],b,_,_=>by rw[mcount];rfl
 |a::x,[],_,_=>by rw[mcount,aoU (p:=LU []) (fun _ _=>rfl)];rfl
 |a::x,b::y,ha,hb=>by
  obtain⟨ha1,ha2⟩:=dY.1 ha;obtain⟨hb1,hb2⟩:=dY.1 hb;rw[mcount];split
  ·rename_i h;rw[UD ha2 hb,rR];intro hm;rcases aK.1 (hasL_iff.1 hm)with rfl|hm
   ·rw[kI]at h;cases h
   ·have:=BP h (hb1 a hm);rw[kI]at this;cases this
  ·rename_i h;split
   ·rename_i h2;rw[UD ha hb2];congr 1;refine zM fun z hz=> ?_;rw[bM,hasL_iff,hasL_iff,aK];constructor
    ·exact .inr
    ·rintro(rfl|h3)
     ·exfalso;rcases aK.1 hz with rfl|hz
      ·rw[kI]at h2;cases h2
      ·have:=BP h2 (ha1 z hz);rw[kI]at this;cases this
     ·exact h3
   ·rename_i h2
    have hab:a=b:=by
     rcases H9 a b with e|e|e
     ·exact absurd e h
     ·exact e
     ·exact absurd e h2
    subst hab;rw[UD ha2 hb2,nE (hasL_iff.2 (by simp)),k_List_length_cons];congr 2;refine zM fun z hz=> ?_;rw[bM,hasL_iff,hasL_iff,aK];constructor
    ·exact .inr
    ·rintro(rfl|h3)
     ·exfalso;have:=ha1 z hz;rw[kI]at this;cases this
     ·exact h3
termination_by x y=>x.length+y.length
def axI {a b:List Str}(ha:Asc a):common a b=a.filter (LU b):=
 Asc.unique (afW a b).1 (pU _ ha) fun z=>by rw[(afW a b).2,bQ,hasL_iff]
def ajB {l:List Str}(hl:Asc l)(x:Str):(jZ l x false).length=l.length+if LU l x then 0 else 1:=by
 induction l with
 |nil=>simp[jZ,D6,LU]
 |cons y l ih=>
  obtain⟨h1,h2⟩:=dY.1 hl;rw[TH];split
  ·rename_i h;have hyx:y≠x:=fun e=>by subst e;rw[kI]at h;cases h
   have:LU (y::l) x=LU l x:=by simp[LU,hyx]
   rw[this,k_List_length_cons,ih h2,k_List_length_cons];omega
  ·split
   ·rename_i h;have:LU (y::l) x=true:=hasL_iff.2 (by simp[h]);rw[this];simp
   ·rename_i h h3
    have:LU (y::l) x=false:=by
     rw[kE];intro hm;rcases aK.1 (hasL_iff.1 hm)with e|e
     ·exact h3 e.symm
     ·have:=h1 x e;exact h this
    rw[this];simp
def au2 {a b:List Str}(ha:Asc a)(hb:Asc b):(aa1 a b).length+(a.filter (LU b)).length=a.length+b.length:=by
 have h1:a.foldl yU []=a:=by
  obtain⟨h1,h2⟩:=NA (f:=yU) (p:=fun _=>True) (g:=id) (fun t x h=>rfl) (fun t x h=>absurd trivial h) a [] .nil;exact Asc.unique h1 ha fun z=>(h2 z).trans (by simp)
 have h2:∀(b t:List Str),Asc b->Asc t->(b.foldl yU t).length+(b.filter (LU t)).length=t.length+b.length:=by
  intro b
  induction b with
  |nil=>intro t _ _;simp
  |cons y b ih=>
   intro t hb ht;obtain⟨hb1,hb2⟩:=dY.1 hb;have h3:=ih (jZ t y false) hb2 (XZ ht);have h4:=ajB ht y
   have h5:b.filter (LU (jZ t y false))=b.filter (LU t):=zM fun z hz=>by
    rw[bM,hasL_iff,hasL_iff,DL];constructor
    ·rintro(h|rfl)
     ·exact h
     ·have:=hb1 z hz;rw[kI]at this;cases this
    ·exact .inl
   rw[h5]at h3;simp only[k_List_foldl_cons,k_List_length_cons];show(b.foldl yU (jZ t y false)).length+_=_;by_cases h:LU t y=true
   ·rw[nE h,k_List_length_cons];rw[h]at h4;simp at h4;omega
   ·rw[rR h];simp only[h,dV,if_false]at h4;omega
 have h3:=h2 b a hb ha
 have h4:b.filter (LU a)=a.filter (LU b):=Asc.unique (pU _ hb) (pU _ ha) fun z=>by
  rw[bQ,bQ,hasL_iff,hasL_iff,and_comm]
 unfold aa1;rw[h1,←h4];exact h3
def XC (a b:List Str):CX a b=if xO a b=true then(if(a.length:Int)+b.length-mcount a b=0 then 1000 else(1000*(mcount a b:Int)).tdiv ((a.length:Int)+b.length-mcount a b))else 0:=by
 unfold CX;split
 ·rename_i h;simp only[xO,qV,k_Bool_and_eq_true]at h;have ha:=X7.1 h.1.2;have hb:=X7.1 h.2.2;have h1:=au2 ha hb;rw[UD ha hb,axI ha,ratio];have h2:((aa1 a b).length:Int)=a.length+b.length-(a.filter (LU b)).length:=by omega
  rw[h2]
 ·rfl
def LK (c:UInt8):Bool:=(decide (97<=c.toNat)&&decide (c.toNat<=122))||(decide (48<=c.toNat)&&decide (c.toNat<=57))
def VY (c:UInt8):LK c=true↔yH c=true/\iT c=c:=by
 simp only[LK,yH,bN,k_Bool_and_eq_true,decide_eq_true_eq];constructor
 ·intro h;exact⟨by omega,UC⟩
 ·rintro⟨h1,h2⟩;rcases h1 with h1|h1
  ·rcases h1 with h1|h1
   ·exact .inl h1
   ·exfalso;have:=aeT h1.1 h1.2;rw[h2]at this;omega
  ·exact .inr h1
def aIF (c:Str):VE c=(decide (c≠[])&&c.all LK):=by
 unfold VE uQ;rw[yN];congr 1;rw[bM,k_Bool_and_eq_true,decide_eq_true_eq,aH,aH];constructor
 ·rintro⟨h1,h2⟩ x hx;refine(VY x).2 ⟨h1 x hx,?_⟩;have:=List.map_inj_left.1 (h2.trans (List.map_id c).symm) x hx;simpa using this
 ·intro h;refine⟨fun x hx=>((VY x).1 (h x hx)).1,?_⟩;exact(xB fun x hx=>((VY x).1 (h x hx)).2).trans (by simp)
def blkIn (l:L1)(i:Nat)(o:L2):L2:=if at1 l i=o.length then o++[[]]else o
def pM (l:L1)(i:Nat)(o:L2):L2:=(blkIn l i o).set (at1 l i).toNat (gat (blkIn l i o) (at1 l i).toNat++[(i:Int)])
def blocksP (l:L1):L2:=loopN l.length [] (pM l)
structure aiP (l:L1) (i:Nat) (o:L2):Prop where
 lt:∀j<i,at1 l j<o.length
 ex:∀v:Int,0<=v->v<o.length->∃j<i,at1 l j=v
 len:o.length<=i
 row:∀v:Nat,v<o.length->gat o v=((List.range i).filter fun j=>decide (at1 l j=v)).map fun j:Nat=>(j:Int)
variable {k:Nat}
def avX {o:L2}{r:L1}(v:Nat)(hk:k<o.length):gat (o.set k r) v=if k=v then r else gat o v:=by
 simp only[gat,aC,kH];by_cases h:k=v
 ·subst h;simp[hk]
 ·simp[h]
def aB6 (o:L2)(r:L1)(v:Nat):gat (o++[r]) v=if v=o.length then r else gat o v:=by
 simp only[gat,aC];by_cases h:v<o.length
 ·rw[bA h,if_neg (by omega)]
 ·by_cases h2:v=o.length
  ·subst h2;simp
  ·rw[if_neg h2,k_List_getElem__eq_none (by simp;omega),k_List_getElem__eq_none (by omega)]
def aiP.zero (l:L1):aiP l 0 []:=⟨fun j hj=>by omega,fun v h1 h2=>by simp at h2;omega,by simp,fun v hv=>by simp at hv⟩
variable {i:Nat}
def aiP.le {l:L1}{o:L2}(h:aiP l i o)(hr:RG l)(hi:i<l.length):0<=at1 l i/\at1 l i<=o.length:=by
 obtain⟨h1,h2⟩:=hr i hi;refine⟨h1,?_⟩;rcases uB (o.length:Int) (at1 l i)with hlt|hle
 ·obtain⟨j,hj,e⟩:=h2 o.length (by omega) hlt;have:=h.lt j hj;omega
 ·exact hle
def aiP.step {l:L1}{i:Nat}{o:L2}(h:aiP l i o)(hr:RG l)(hi:i<l.length):(at1 l i).toNat<(blkIn l i o).length/\aiP l (i+1) (pM l i o):=by
 have hle:=h.le hr hi
 have hin:(blkIn l i o).length=(if at1 l i=o.length then o.length+1 else o.length)/\∀v:Nat,gat (blkIn l i o) v=if v<o.length then gat o v else[]:=by
  unfold blkIn;split
  ·refine⟨by simp,fun v=> ?_⟩;rw[aB6];split
   ·rw[if_neg (by omega)]
   ·split
    ·rfl
    ·simp[gat,aC,k_List_getElem__eq_none (show o.length<=v by omega)]
  ·refine⟨rfl,fun v=> ?_⟩;split
   ·rfl
   ·simp[gat,aC,k_List_getElem__eq_none (show o.length<=v by omega)]
 have hlt:(at1 l i).toNat<(blkIn l i o).length:=by rw[hin.1];split<;>omega
 refine⟨hlt,?_⟩;have hlen:(pM l i o).length=(if at1 l i=o.length then o.length+1 else o.length):=by simp[pM,hin.1]
 refine⟨fun j hj=> ?_,fun v h1 h2=> ?_,?_,fun v hv=> ?_⟩
 ·by_cases hji:j=i
  ·subst hji;rw[hlen];split<;>omega
  ·have:=h.lt j (by omega);rw[hlen];split<;>omega
 ·rw[hlen]at h2;by_cases hv:v<o.length
  ·obtain⟨j,hj,e⟩:=h.ex v h1 hv;exact⟨j,by omega,e⟩
  ·refine⟨i,by omega,?_⟩;split at h2<;>omega
 ·have:=h.len;rw[hlen];split<;>omega
 ·rw[hlen]at hv;rw[pM,avX v hlt,hin.2,hin.2,dN,eD,fH];by_cases hvi:(at1 l i).toNat=v
  ·rw[if_pos hvi];have hd:decide (at1 l i=(v:Int))=true:=by simp;omega
   simp only[List.filter_cons,hd,if_true,List.filter_nil,fI,List.map_nil];congr 1;rw[hvi];split
   ·rename_i hvo;exact h.row v hvo
   ·-- a row that is new:no earlier item has its label
    rename_i hvo;rw[sP.2,List.map_nil];intro j hj;have:=h.lt j (bB.1 hj);simp;omega
  ·rw[if_neg hvi];have hd:decide (at1 l i=(v:Int))=false:=by simp;omega
   have hvo:v<o.length:=by
    split at hv
    ·omega
    ·exact hv
   simp[hd,if_pos hvo,h.row v hvo]
def blocksI {l:L1}(hr:RG l)(hi:i<=l.length):aiP l i (loopN i [] (pM l)):=by
 induction i with
 |zero=>exact .zero l
 |succ i ih=>rw[aM];exact((ih (by omega)).step hr (by omega)).2
def kQ (m:L2)(items:L1):L2:=items.map fun x=>items.map fun y=>at2 m x.toNat y.toNat
def QN (n:Nat)(items:L1):Prop:=(∀x∈items,0<=x/\x<n)/\items.Pairwise (·<·)
structure S20 where
 best:L1
 cost:Int
 count:Int
def asH (cs:List Con)(l:L1):Bool:=cs.any fun c=>decide (c.b=(l.length:Int)-1)&&(decide (at1 l c.a.toNat=at1 l (l.length-1)) !=c.same)
def DR (m:L2)(l:L1)(k:Int)(n i:Nat):Int:=if at2 m i n>0/\at1 l i≠k then at2 m i n else if at2 m i n<0/\at1 l i=k then-at2 m i n else 0
def ae6 (m:L2)(l:L1)(k:Int)(n:Nat)(c:Int):Int:=loopN n c fun i s=>s+DR m l k n i
def XD (l:L1)(cost:Int)(s:S20):S20:=if s.cost<0\/cost<s.cost then⟨l,cost,1⟩else⟨s.best,s.cost,s.count+1⟩
def WB (cost:Int)(s:S20):Prop:=0<=s.cost/\s.cost<cost
instance(cost:Int) (s:S20):Decidable (WB cost s):=by unfold WB;infer_instance
def walk20 (m:L2)(cs:List Con):Nat->L1->Int->Int->S20->S20
 |0,l,_,cost,s=>if WB cost s then s else XD l cost s
 |d+1,l,top,cost,s=>if WB cost s then s else loopN (top+2).toNat s fun k s=>if asH cs (l++[(k:Int)])=true then s else walk20 m cs d (l++[(k:Int)]) (max top k) (ae6 m l k l.length cost) s
def EW (m:L2)(cs:List Con)(d:Nat)(l:L1)(top cost:Int)(k:Nat)(s:S20):S20:=if asH cs (l++[(k:Int)])=true then s else walk20 m cs d (l++[(k:Int)]) (max top k) (ae6 m l k l.length cost) s
def walk20_succ (m:L2)(cs:List Con)(d:Nat)(l:L1)(top cost:Int)(s:S20):walk20 m cs (d+1) l top cost s=if WB cost s then s else loopN (top+2).toNat s (EW m cs d l top cost):=rfl
def ac4 (m:L2)(cs:List Con):S20:=walk20 m cs m.length [] (-1) 0 ⟨[], -1,0⟩
def aA1 {m:L2}(h:bR m=true)(l:L1)(k:Int)(n i:Nat):0<=DR m l k n i/\DR m l k n i<=1000:=by
 have:=iL h i n;unfold DR;split
 ·omega
 ·split<;>omega
def aAC {m:L2}(h:bR m=true)(l:L1)(k:Int)(n:Nat)(c:Int)(j:Nat):c<=loopN j c (fun i s=>s+DR m l k n i)/\loopN j c (fun i s=>s+DR m l k n i)<=c+1000*j:=
 loopN_inv (fun j x=>c<=x/\x<=c+1000*j) (by omega) fun i x _ hx=>by have:=aA1 h l k n i;omega
def aME (d:Nat):1<=9^d:=Nat.one_le_pow _ _ (by omega)
structure W20 (d:Nat) (n:Nat) (s s':S20):Prop where
 lo:0<=s.count->0<=s'.count
 hi:0<=s.count->s'.count<=s.count+(9^d:Nat)
 best:s'.best=s.best\/s'.best.length=n
def ar5 {m:L2}{cs:List Con}:∀(d:Nat) (l:L1) (top cost:Int) (s:S20),top+2+d<=9->W20 d (l.length+d) s (walk20 m cs d l top cost s)
 |0,l,top,cost,s,_=>by
  unfold walk20;split
  ·exact⟨id,fun h=>by simp;omega,.inl rfl⟩
  ·unfold XD;split
   ·exact⟨fun _=>by simp,fun h=>by simp;omega,.inr rfl⟩
   ·exact⟨fun h=>by simp only;omega,fun h=>by simp,.inl rfl⟩
 |d+1,l,top,cost,s,ht=>by
  rw[walk20_succ];have hp:=aME d;split
  ·exact⟨id,fun h=>by omega,.inl rfl⟩
  ·have key:∀j≤(top+2).toNat,(0<=s.count->0<=(loopN j s (EW m cs d l top cost)).count/\(loopN j s (EW m cs d l top cost)).count<=s.count+((j*9^d:Nat):Int))/\((loopN j s (EW m cs d l top cost)).best=s.best\/(loopN j s (EW m cs d l top cost)).best.length=l.length+(d+1)):=by
    intro j hj
    induction j with
    |zero=>exact⟨fun h=>⟨h,by simp[loopN_zero]⟩,.inl rfl⟩
    |succ j ih=>
     obtain⟨i1,i2⟩:=ih (by omega);rw[aM];generalize loopN j s (EW m cs d l top cost)=x at i1 i2|-
     unfold EW;have hmul:(j+1)*9^d=j*9^d+9^d:=by rw[k_Nat_add_mul,Nat.one_mul]
     split
     ·exact⟨fun h=>⟨(i1 h).1,by have:=(i1 h).2;rw[hmul];omega⟩,i2⟩
     ·have h3:=ar5 (m:=m) (cs:=cs) d (l++[(j:Int)]) (max top j) (ae6 m l j l.length cost) x (by omega);refine⟨fun h=>⟨h3.lo (i1 h).1,by have:=h3.hi (i1 h).1;have:=(i1 h).2;rw[hmul];omega⟩,?_⟩;rcases h3.best with e|e
      ·rw[e];exact i2
      ·right;rw[e,aR,eF];omega
   obtain⟨k1,k2⟩:=key _ (k_Nat_le_refl _);have hm:(top+2).toNat*9^d<=9*9^d:=aX _ (by omega);have hs:9^(d+1)=9*9^d:=by rw[Nat.pow_succ,rE]
   exact⟨fun h=>(k1 h).1,fun h=>by have:=(k1 h).2;rw[hs];omega,k2⟩
def nQ (cs:List Con)(l:L1):Bool:=cs.all (yZ l)
def mX (m:L2)(cs:List Con)(l:L1)(s:S20):S20:=
 if nQ cs l=true then(if s.cost<0\/dP m l<s.cost then⟨l,dP m l,1⟩else if dP m l=s.cost then⟨s.best,s.cost,s.count+1⟩else s)else s
def qP (f:L1->S20->S20):Nat->L1->Nat->S20->S20
 |0,l,_,s=>f l s
 |d+1,l,nx,s=>loopN (nx+1) s fun x s=>qP f d (l++[(x:Int)]) (max nx (x+1)) s
def zB (m:L2)(cs:List Con):S20:=qP (mX m cs) m.length [] 0 ⟨[], -1,0⟩
def okP (cs:List Con)(l:L1):Prop:=∀c∈cs,c.b<l.length->decide (at1 l c.a.toNat=at1 l c.b.toNat)=c.same
def lQ (l:L1)(k:Int)(i:Nat):at1 (l++[k]) i=if i<l.length then at1 l i else if i=l.length then k else 0:=by
 simp only[at1,aC];by_cases h:i<l.length
 ·rw[bA h,if_pos h]
 ·rw[if_neg h];by_cases h2:i=l.length
  ·subst h2;simp
  ·rw[if_neg h2,k_List_getElem__eq_none (by simp;omega)];rfl
variable {x:Nat}
variable {n:Nat}
section
variable {m:L2}{cs:List Con}
def ahO {n:Int}(hc:cO n cs=true)(l:L1)(k:Int):okP cs (l++[k])↔okP cs l/\asH cs (l++[k])=false:=by
 have hn:=(mQ hc).2.2.2;have hlen:(l++[k]).length=l.length+1:=by simp
 constructor
 ·intro h;refine⟨fun c hcs hb=> ?_,?_⟩
  ·have:=h c hcs (by rw[hlen];omega);have h2:=hn c hcs;rw[lQ,lQ,if_pos (by omega),if_pos (by omega)]at this;exact this
  ·rw[asH,gX];intro c hcs hb;simp only[k_Bool_and_eq_true,decide_eq_true_eq,bne_iff_ne,ne_eq]at hb;have h2:=hn c hcs;have:=h c hcs (by rw[hlen]at hb|-;omega);apply hb.2;rw[←this,hlen];have e:c.b.toNat=l.length:=by rw[hlen]at hb;omega
   rw[e];rfl
 ·rintro⟨h1,h2⟩ c hcs hb;have h3:=hn c hcs;by_cases hlt:c.b<l.length
  ·have:=h1 c hcs hlt;rw[lQ,lQ,if_pos (by omega),if_pos (by omega)];exact this
  ·rw[asH,gX]at h2;have h4:=h2 c hcs;rw[hlen]at hb h4;have e:c.b.toNat=l.length:=by omega
   simp only[k_Bool_and_eq_true,decide_eq_true_eq,bne_iff_ne,ne_eq,not_and,Classical.not_not]at h4;rw[e];exact h4 (by omega)
def abW {n:Int}(hc:cO n cs=true){l:L1}(hl:(l.length:Int)=n):nQ cs l=true↔okP cs l:=by
 have hn:=(mQ hc).2.2.2;rw[nQ,aH];constructor
 ·intro h c hcs hb;have:=h c hcs;simp only[yZ,k_Bool_and_eq_true,beq_iff_eq]at this;exact this.2
 ·intro h c hcs;have h2:=hn c hcs;have:=h c hcs (by omega);simp only[yZ,k_Bool_and_eq_true,beq_iff_eq,decide_eq_true_eq];exact⟨⟨by omega,by omega⟩,this⟩
def aHR {n:Int}(hc:cO n cs=true){l:L1}(h:¬okP cs l)(k:Int):¬okP cs (l++[k]):=fun h2=>h ((ahO hc l k).1 h2).1
def ajU {n:Int}(hc:cO n cs=true):∀(d:Nat) (l:L1) (nx:Nat) (s:S20),((l.length+d:Nat):Int)=n->¬okP cs l->qP (mX m cs) d l nx s=s
 |0,l,nx,s,hl,h=>by
  rw[qP,mX,if_neg];intro hk;exact h ((abW hc (by simpa using hl)).1 hk)
 |d+1,l,nx,s,hl,h=>by
  rw[qP];refine loopN_inv (fun _ x=>x=s) rfl fun i x _ hx=> ?_;rw[hx];exact ajU hc d _ _ s (by simp only[aR,eF];omega) (aHR hc h _)
def X9 (hm:bR m=true)(i k:Nat):at2 m i k=at2 m k i:=by
 by_cases hi:i<m.length
 ·by_cases hk:k<m.length
  ·simp only[bR,k_Bool_and_eq_true,aH,bB]at hm;have:=hm.1.2 i hi k hk;simp only[JY,k_Bool_and_eq_true,decide_eq_true_eq]at this;exact this.1.2
  ·obtain⟨r,hr,hrl⟩:=ER hm hi;simp[at2,aC,hr,k_List_getElem__eq_none (show r.length<=k by omega),k_List_getElem__eq_none (show m.length<=k by omega)]
 ·by_cases hk:k<m.length
  ·obtain⟨r,hr,hrl⟩:=ER hm hk;simp[at2,aC,hr,k_List_getElem__eq_none (show r.length<=i by omega),k_List_getElem__eq_none (show m.length<=i by omega)]
  ·simp[at2,aC,k_List_getElem__eq_none (show m.length<=i by omega),k_List_getElem__eq_none (show m.length<=k by omega)]
def yC {σ:Type}{s:σ}{f g:Nat->σ->σ}(h:∀i x,i<n->f i x=g i x):loopN n s f=loopN n s g:=by
 have:∀k≤n,loopN k s f=loopN k s g:=by
  intro k hk
  induction k with
  |zero=>rfl
  |succ k ih=>rw[aM,aM,ih (by omega),h _ _ (by omega)]
 exact this n (k_Nat_le_refl n)
def VS (hm:bR m=true)(l:L1)(k:Int):dP m (l++[k])=ae6 m l k l.length (dP m l):=by
 unfold dP;rw[aR,eF,aM]
 have h1:loopN l.length 0 (AU m (l++[k]))=loopN l.length 0 (AU m l):=yC fun i x hi=>by
  unfold AU;refine yC fun j y hj=> ?_
  have:tL m (l++[k]) i j=tL m l i j:=by
   have e1:at1 (l++[k]) i=at1 l i:=by rw[lQ,if_pos hi]
   have e2:at1 (l++[k]) j=at1 l j:=by rw[lQ,if_pos (by omega)]
   unfold tL;rw[e1,e2]
  rw[this]
 rw[h1];unfold AU ae6;refine yC fun j y hj=> ?_;congr 1;have e1:at1 (l++[k]) l.length=k:=by rw[lQ,if_neg (by omega),if_pos rfl]
 have e2:at1 (l++[k]) j=at1 l j:=by rw[lQ,if_pos hj]
 unfold tL DR;rw[e1,e2,X9 hm l.length j];by_cases e:at1 l j=k
 ·simp[e]
 ·have e2:¬k=at1 l j:=fun h=>e h.symm;simp[e,e2]
def ai8 (hm:bR m=true)(l:L1)(k:Int):dP m l<=dP m (l++[k]):=by
 rw[VS hm];exact(aAC hm l k l.length (dP m l) l.length).1
def af5 (hm:bR m=true):∀(d:Nat) (l:L1) (nx:Nat) (s:S20),WB (dP m l) s->qP (mX m cs) d l nx s=s
 |0,l,nx,s,h=>by
  unfold WB at h;rw[qP,mX];split
  ·rw[if_neg (by omega),if_neg (by omega)]
  ·rfl
 |d+1,l,nx,s,h=>by
  unfold WB at h;rw[qP];refine loopN_inv (fun _ x=>x=s) rfl fun i x _ hx=> ?_;rw[hx];refine af5 hm d _ _ s ?_;have:=ai8 hm l (i:Int);unfold WB;omega
def alC (hm:bR m=true)(hc:cO m.length cs=true):∀(d:Nat) (l:L1) (top:Int) (s:S20),l.length+d=m.length-> -1<=top->okP cs l->walk20 m cs d l top (dP m l) s=qP (mX m cs) d l (top+1).toNat s
 |0,l,top,s,hl,ht,ho=>by
  have hk:=(abW hc (l:=l) (by omega)).2 ho;rw[walk20,qP,mX,if_pos hk];split
  ·rename_i h;unfold WB at h;rw[if_neg (by omega),if_neg (by omega)]
  ·rename_i h;unfold WB at h;unfold XD;split
   ·rfl
   ·rw[if_pos (by omega)]
 |d+1,l,top,s,hl,ht,ho=>by
  rw[walk20_succ];split
  ·rename_i h;rw[af5 hm _ _ _ _ h]
  ·rw[qP,show(top+2).toNat=(top+1).toNat+1 by omega];refine yC fun i x hi=> ?_;unfold EW;have hlen:(l++[(i:Int)]).length=l.length+1:=by simp
   split
   ·rename_i hb;rw[ajU hc d _ _ x (by rw[hlen];omega)];intro h2;have:=((ahO hc l i).1 h2).2;rw[hb]at this;cases this
   ·rename_i hb;have hok:=(ahO hc l i).2 ⟨ho,by simpa using hb⟩;rw[←VS hm,alC hm hc d _ _ x (by rw[hlen];omega) (by omega) hok];congr 1;omega
def aaP (hm:bR m=true)(hc:cO m.length cs=true):ac4 m cs=zB m cs:=
 alC hm hc m.length [] (-1) _ (by simp) (by omega) (fun c hcs hb=>by have:=(mQ hc).2.2.2 c hcs;simp at hb;omega)
def X6 {l:L1}{nx:Nat}(hl:RG l)(hnx:∀v:Int,0<=v->v<nx->∃j<l.length,at1 l j=v)(hx:x<=nx:=by omega):RG (l++[(x:Int)]):=by
 intro k hk;simp only[aR,eF]at hk;by_cases hkl:k<l.length
 ·rw[lQ,if_pos hkl];refine⟨(hl k hkl).1,fun v h1 h2=> ?_⟩;obtain⟨j,hj,e⟩:=(hl k hkl).2 v h1 h2;exact⟨j,hj,by rw[lQ,if_pos (by omega),e]⟩
 ·obtain rfl:k=l.length:=by omega
  rw[lQ,if_neg (by omega),if_pos rfl];refine⟨by omega,fun v h1 h2=> ?_⟩;obtain⟨j,hj,e⟩:=hnx v h1 (by omega);exact⟨j,hj,by rw[lQ,if_pos hj,e]⟩
def amS {l:L1}{nx:Nat}(hnx:∀v:Int,0<=v->v<nx->∃j<l.length,at1 l j=v)(hx:x<=nx:=by omega):∀v:Int,0<=v->v<(max nx (x+1):Nat)->∃j<(l++[(x:Int)]).length,at1 (l++[(x:Int)]) j=v:=by
 intro v h1 h2;by_cases hv:v<nx
 ·obtain⟨j,hj,e⟩:=hnx v h1 hv;exact⟨j,by simp;omega,by rw[lQ,if_pos hj,e]⟩
 ·exact⟨l.length,by simp,by rw[lQ,if_neg (by omega),if_pos rfl];omega⟩
def Found (n:Nat)(s:S20):Prop:= -1<=s.cost/\(0<=s.cost->RG s.best/\s.best.length=n)
def kU (hm:bR m=true)(l:L1):0<=dP m l:=by
 refine loopN_inv (fun _ x=>0<=x) (by omega) fun i x _ hx=> ?_;refine loopN_inv (fun _ y=>0<=y) hx fun k y _ hy=> ?_;have:=iL hm i k;unfold tL;split
 ·omega
 ·split<;>omega
def Q0 (hm:bR m=true):∀(d:Nat) (l:L1) (nx:Nat) (s:S20),RG l->(∀v:Int,0<=v->v<nx->∃j<l.length,at1 l j=v)->Found (l.length+d) s->Found (l.length+d) (qP (mX m cs) d l nx s)/\(0<=s.cost->0<=(qP (mX m cs) d l nx s).cost)
 |0,l,nx,s,hl,hnx,hs=>by
  have hp:=kU hm l;rw[qP,mX];split
  ·split
   ·exact⟨⟨by simp only;omega,fun _=>⟨hl,rfl⟩⟩,fun _=>hp⟩
   ·split
    ·exact⟨⟨hs.1,hs.2⟩,fun h=>h⟩
    ·exact⟨hs,fun h=>h⟩
  ·exact⟨hs,fun h=>h⟩
 |d+1,l,nx,s,hl,hnx,hs=>by
  rw[qP];refine loopN_inv (fun _ x=>Found (l.length+(d+1)) x/\(0<=s.cost->0<=x.cost)) ⟨hs,fun h=>h⟩ fun i x hi ⟨h1,h2⟩=> ?_;have hlen:(l++[(i:Int)]).length+d=l.length+(d+1):=by simp;omega
  have h3:=Q0 hm d (l++[(i:Int)]) (max nx (i+1)) x (X6 hl hnx) (amS hnx) (by rw[hlen];exact h1);rw[hlen]at h3;exact⟨h3.1,fun h=>h3.2 (h2 h)⟩
def acL (hm:bR m=true):∀(d:Nat) (l e:L1) (nx:Nat) (s:S20),RG (l++e)->e.length=d->(∀v:Int,0<=v->v<nx->∃j<l.length,at1 l j=v)->(∀j<l.length,at1 l j<nx)->RG l->Found (l.length+d) s->nQ cs (l++e)=true->0<=(qP (mX m cs) d l nx s).cost
 |0,l,e,nx,s,hr,he,hnx,hlt,hl,hs,hk=>by
  obtain rfl:e=[]:=bE he;rw[dW]at hk;have hp:=kU hm l;rw[qP,mX,if_pos hk];split
  ·exact hp
  ·split
   ·simp only;omega
   ·omega
 |d+1,l,e,nx,s,hr,he,hnx,hlt,hl,hs,hk=>by
  cases e with
  |nil=>simp at he
  |cons x e=>
   have hlx:at1 (l++x::e) l.length=x:=by simp[at1,aC]
   have hx:=hr l.length (by simp);rw[hlx]at hx
   have hxn:x<=nx:=by
    rcases uB (nx:Int) x with hlt2|hle
    ·obtain⟨j,hj,ej⟩:=hx.2 nx (by omega) hlt2;have e2:at1 (l++x::e) j=at1 l j:=by simp[at1,aC,bA hj]
     rw[e2]at ej;have:=hlt j hj;omega
    ·exact hle
   obtain⟨x,rfl⟩:∃k:Nat,x=k:=⟨x.toNat,by omega⟩;rw[qP]
   have key:∀j≤nx+1,Found (l.length+(d+1)) (loopN j s fun x s=>qP (mX m cs) d (l++[(x:Int)]) (max nx (x+1)) s)/\(x<j->0<=(loopN j s fun x s=>qP (mX m cs) d (l++[(x:Int)]) (max nx (x+1)) s).cost):=by
    intro j hj
    induction j with
    |zero=>exact⟨hs,by omega⟩
    |succ j ih=>
     obtain⟨i1,i2⟩:=ih (by omega);rw[aM];generalize(loopN j s fun x s=>qP (mX m cs) d (l++[(x:Int)]) (max nx (x+1)) s)=y at i1 i2|-
     have hlen:(l++[(j:Int)]).length+d=l.length+(d+1):=by simp;omega
     have h3:=Q0 (cs:=cs) hm d (l++[(j:Int)]) (max nx (j+1)) y (X6 hl hnx) (amS hnx) (by rw[hlen];exact i1);rw[hlen]at h3;refine⟨h3.1,fun hlt2=> ?_⟩;by_cases hjx:j=x
     ·subst hjx;refine acL hm d (l++[(j:Int)]) e (max nx (j+1)) y (by simpa using hr) (by simpa using he) (amS hnx) (fun i hi=> ?_) (X6 hl hnx) (by rw[hlen];exact i1) (by simpa using hk);rw[lQ];simp only[aR,eF]at hi;split
      ·have:=hlt i (by omega);omega
      ·split<;>omega
     ·exact h3.2 (i2 (by omega))
   exact(key (nx+1) (k_Nat_le_refl _)).2 (by omega)
def ar8:RG []:=fun k hk=>by simp at hk
def alO (hm:bR m=true):Found m.length (zB m cs):=by
 have:=(Q0 (cs:=cs) hm m.length [] 0 ⟨[], -1,0⟩ ar8 (fun v h1 h2=>by omega) ⟨by simp,fun h=>by simp at h⟩).1;simpa[zB]using this
def alP (hm:bR m=true){L:L1}(hL:RG L)(hl:L.length=m.length)(hk:nQ cs L=true):0<=(zB m cs).cost:=
 acL hm m.length [] L 0 _ (by simpa using hL) hl (fun v h1 h2=>by omega) (fun j hj=>by simp at hj) ar8 ⟨by simp,fun h=>by simp at h⟩ (by simpa using hk)
end
def afE {M:List (List Bool)}(h:sqB n M){a b:Nat}(hi:i<n)(hk:k<n)(v:Bool):atB (VD M i k v) a b=if a=i/\b=k then v else atB M a b:=by
 obtain⟨r,hr,hrl,hrk⟩:=aaU h hi hk;rw[aaR hr];simp only[atB,aC,kH];by_cases ha:i=a
 ·subst ha;rw[if_pos rfl,if_pos (by rw[h.1];exact hi)];simp only[Option.getD_some,kH];by_cases hb:k=b
  ·subst hb;rw[if_pos rfl,if_pos (by omega)];simp
  ·rw[if_neg hb,if_neg (fun e=>hb e.2.symm)];simp[hr]
 ·rw[if_neg ha,if_neg (fun e=>ha e.1.symm)]
def aAK (n a b:Nat):atB (noLinks n) a b=false:=by
 simp only[atB,noLinks,aC,fG];split
 ·simp[fG];split<;>rfl
 ·simp
def PP (c:Con)(a b:Nat):Prop:=c.same=true/\((c.a=a/\c.b=b)\/(c.a=b/\c.b=a))
def lN :∀(cs:List Con),(∀c∈cs,0<=c.a/\c.a<c.b/\c.b<n)->sqB n (nR n cs)/\∀a b,atB (nR n cs) a b=true↔∃c∈cs,PP c a b:=by
 have key:∀(cs:List Con) (M:List (List Bool)),(∀c∈cs,0<=c.a/\c.a<c.b/\c.b<n)->sqB n M->sqB n (cs.foldl mustStep M)/\∀a b,atB (cs.foldl mustStep M) a b=true↔atB M a b=true\/∃c∈cs,PP c a b:=by
  intro cs
  induction cs with
  |nil=>intro M _ h;exact⟨h,fun a b=>by simp⟩
  |cons c cs ih=>
   intro M hc h;have h1:=hc c (by simp)
   have hsq:sqB n (mustStep M c):=by
    unfold mustStep;split
    ·exact sqB_set (sqB_set h)
    ·exact h
   obtain⟨g1,g2⟩:=ih (mustStep M c) (fun c hcs=>hc c (bC _ hcs)) hsq;refine⟨g1,fun a b=> ?_⟩;rw[k_List_foldl_cons,g2]
   have hst:atB (mustStep M c) a b=true↔atB M a b=true\/PP c a b:=by
    unfold mustStep PP;split
    ·rename_i hs;rw[afE (sqB_set h) (by omega) (by omega),afE h (by omega) (by omega)];simp only[hs,true_and];by_cases e1:a=c.b.toNat/\b=c.a.toNat
     ·rw[if_pos e1];simp;right;right;omega
     ·rw[if_neg e1];by_cases e2:a=c.a.toNat/\b=c.b.toNat
      ·rw[if_pos e2];simp;right;left;omega
      ·rw[if_neg e2];constructor
       ·exact .inl
       ·rintro(h|h|h)
        ·exact h
        ·exact absurd ⟨by omega,by omega⟩ e2
        ·exact absurd ⟨by omega,by omega⟩ e1
    ·rename_i hs;simp[hs]
   rw[hst];simp only[aK,exists_eq_or_imp,or_assoc]
 intro cs hc;obtain⟨h1,h2⟩:=key cs (noLinks n) hc (aiE n);refine⟨h1,fun a b=>(h2 a b).trans ?_⟩;simp[aAK]
def XF {c:Con}{a b:Nat}(h:PP c a b):PP c b a:=⟨h.1,by rcases h.2 with h|h;(exact .inr h);exact .inl h⟩
def ayT {cs:List Con}(hc:∀c∈cs,0<=c.a/\c.a<c.b/\c.b<n):anJ n (nR n cs):=fun a b _ _ h=>by
 obtain⟨c,h1,h2⟩:=((lN cs hc).2 a b).1 h;exact((lN cs hc).2 b a).2 ⟨c,h1,XF h2⟩
def uW {cs:List Con}(h:cO n cs=true):∀c∈cs,0<=c.a/\c.a<c.b/\c.b<(n:Int):=(mQ h).2.2.2
def oD {cs:List Con}(h:cO n cs=true):GJ n (nR n cs) (eH n cs):=aeS (ayT (uW h))
def jA {cs:List Con}:eQ n cs=true↔cO n cs=true/\∀c∈cs,c.same=false->¬Reach n (nR n cs) c.a.toNat c.b.toNat:=by
 unfold eQ xS;rw[k_Bool_and_eq_true,decide_eq_true_eq];constructor
 ·rintro⟨h1,h2⟩;refine⟨h1,fun c hc hs hr=> ?_⟩;rw[if_pos h1]at h2;have hb:=uW h1 c hc;have h3:¬0<=ix (IV (eH n cs)) cs:=by omega
  rw[jC]at h3;apply h3;rw[cZ];refine⟨c,hc,?_⟩;have:=((oD h1).2.2 c.a.toNat c.b.toNat (by omega) (by omega)).2 hr;simp[IV,hs,this]
 ·rintro⟨h1,h2⟩;refine⟨h1,?_⟩;rw[if_pos h1]
  have h3:¬0<=ix (IV (eH n cs)) cs:=by
   rw[jC,cZ];rintro⟨c,hc,hb⟩;simp only[IV,k_Bool_and_eq_true,gF,decide_eq_true_eq]at hb;have hb2:=uW h1 c hc;exact h2 c hc hb.1 (((oD h1).2.2 c.a.toNat c.b.toNat (by omega) (by omega)).1 hb.2)
  omega
def VI {cs:List Con}(h:eQ n cs=true):nQ cs (eH n cs)=true:=by
 obtain⟨h1,h2⟩:=jA.1 h;have hL:=oD h1;rw[abW h1 (by rw[hL.1])];intro c hc hb;have hb2:=uW h1 c hc;have hi:=hL.2.2 c.a.toNat c.b.toNat (by omega) (by omega);cases hs:c.same with
 |true=>
  rw[decide_eq_true_eq,hi];exact .step (.refl _) (by omega) (by omega) (((lN cs (uW h1)).2 _ _).2 ⟨c,hc,hs,.inl ⟨by omega,by omega⟩⟩)
 |false=>
  rw[decide_eq_false_iff_not,hi];exact h2 c hc hs
def aFQ {m:L2}{cs:List Con}(hm:bR m=true)(h:eQ m.length cs=true):0<=(zB m cs).cost/\RG (zB m cs).best/\(zB m cs).best.length=m.length:=by
 have hL:=oD (jA.1 h).1;have h1:=alP (cs:=cs) hm hL.2.1 hL.1 (VI h);exact⟨h1,(alO hm).2 h1⟩
def BZ {n:Int}{a b:List Con}(h:a.Perm b):cO n a=cO n b:=by
 have h1:a.all (PW n)=b.all (PW n):=h.all_eq;unfold cO;rw[h1,h.length_eq]
def aaB {a b:List Con}(ha:cO n a=true)(hb:cO n b=true)(h:∀c,c∈a↔c∈b):eH n a=eH n b:=by
 have hla:=oD ha;have hlb:=oD hb
 have hm:∀x y,atB (nR n a) x y=true↔atB (nR n b) x y=true:=fun x y=>by
  rw[(lN a (uW ha)).2,(lN b (uW hb)).2];simp only[h]
 refine RG.unique (by rw[hla.1,hlb.1]) hla.2.1 hlb.2.1 fun i k hi hk=> ?_;rw[hla.1]at hi hk;rw[hla.2.2 i k hi hk,hlb.2.2 i k hi hk];exact⟨fun hr=>hr.mono fun x y _ _ e=>(hm x y).1 e,fun hr=>hr.mono fun x y _ _ e=>(hm x y).2 e⟩
def PK {a b:List Con}(h:a.Perm b):eQ n a=eQ n b:=by
 rw[bM,jA,jA,BZ h];refine and_congr_right fun hb=> ?_;have ha:cO n a=true:=by rw[BZ h];exact hb
 have hm:∀x y,atB (nR n a) x y=true↔atB (nR n b) x y=true:=fun x y=>by
  rw[(lN a (uW ha)).2,(lN b (uW hb)).2];simp only[h.mem_iff]
 have hr:∀x y,Reach n (nR n a) x y↔Reach n (nR n b) x y:=fun x y=>⟨fun hr=>hr.mono fun x y _ _ e=>(hm x y).1 e,fun hr=>hr.mono fun x y _ _ e=>(hm x y).2 e⟩;simp only[h.mem_iff,hr]
def apM {a b:List Con}(h:a.Perm b)(l:L1):nQ a l=nQ b l:=h.all_eq
def asK {m:L2}{a b:List Con}(h:a.Perm b):mX m a=mX m b:=by
 funext l s;unfold mX;rw[apM h]
def anT {m:L2}{a b:List Con}(h:a.Perm b):zB m a=zB m b:=by
 unfold zB;rw[asK h]
def am0 {a b:List Con}(h:a.Perm b)(items:L1):(iK a items).Perm (iK b items):=h.filterMap _
end Go.Pl
end
section
namespace Go
def iQ:= @List.length_filterMap_le
def aZ:= @List.length_filter_le
def dR:= @List.pairwise_iff_getElem
def zO:= @List.pairwise_map
end Go
end
section
namespace Go.Pl
open Go.Dv
variable {n:Nat}
def ao9 {n:Nat}(f:Nat->Nat->Bool):let L:=loopN n (noLinks n) fun i M=>loopN n M fun k M=>VD M i k (f i k);sqB n L/\∀a b,a<n->b<n->atB L a b=f a b:=by
 have key:∀i≤n,sqB n (loopN i (noLinks n) fun i M=>loopN n M fun k M=>VD M i k (f i k))/\∀a b,a<n->b<n->atB (loopN i (noLinks n) fun i M=>loopN n M fun k M=>VD M i k (f i k)) a b=if a<i then f a b else false:=by
  intro i hi
  induction i with
  |zero=>exact⟨aiE n,fun a b _ _=>by rw[loopN_zero,aAK];simp⟩
  |succ i ih=>
   obtain⟨h1,h2⟩:=ih (by omega);rw[aM];generalize(loopN i (noLinks n) fun i M=>loopN n M fun k M=>VD M i k (f i k))=M at h1 h2|-
   have row:∀k≤n,sqB n (loopN k M fun k M=>VD M i k (f i k))/\∀a b,a<n->b<n->atB (loopN k M fun k M=>VD M i k (f i k)) a b=if a=i/\b<k then f a b else if a<i then f a b else false:=by
    intro k hk
    induction k with
    |zero=>exact⟨h1,fun a b ha hb=>by rw[loopN_zero,h2 a b ha hb,if_neg (c:=a=i/\b<0) (by omega)]⟩
    |succ k ih2=>
     obtain⟨g1,g2⟩:=ih2 (by omega);rw[aM];refine⟨sqB_set g1,fun a b ha hb=> ?_⟩;rw[afE g1 (by omega) (by omega)];by_cases e:a=i/\b=k
     ·obtain⟨rfl,rfl⟩:=e;rw[if_pos ⟨rfl,rfl⟩,if_pos ⟨rfl,by omega⟩]
     ·rw[if_neg e,g2 a b ha hb];by_cases e2:a=i/\b<k
      ·rw[if_pos e2,if_pos ⟨e2.1,by omega⟩]
      ·rw[if_neg e2,if_neg (c:=a=i/\b<k+1) (by omega)]
   obtain⟨g1,g2⟩:=row n (k_Nat_le_refl n);refine⟨g1,fun a b ha hb=> ?_⟩;rw[g2 a b ha hb];by_cases e:a=i
   ·subst e;rw[if_pos ⟨rfl,hb⟩,if_pos (by omega)]
   ·rw[if_neg (fun e2=>e e2.1)];by_cases e2:a<i
    ·rw[if_pos e2,if_pos (by omega)]
    ·rw[if_neg e2,if_neg (by omega)]
 obtain⟨h1,h2⟩:=key n (k_Nat_le_refl n);exact⟨h1,fun a b ha hb=>by rw[h2 a b ha hb,if_pos ha]⟩
def vM (m:L2):∀a b,a<m.length->b<m.length->atB (aaJ m) a b=decide (at2 m a b>0):=(ao9 fun i k=>decide (at2 m i k>0)).2
def LV (p q:L1):∀a b,a<p.length->b<p.length->atB (TZ p q) a b=(decide (at1 p a=at1 p b)||decide (at1 q a=at1 q b)):=(ao9 fun i k=>decide (at1 p i=at1 p k)||decide (at1 q i=at1 q k)).2
variable {m:L2}
def O1 (hm:bR m=true):GJ m.length (aaJ m) (pX m):=aeS fun a b ha hb h=>by
 rw[vM m a b ha hb]at h;rw[vM m b a hb ha,X9 hm b a];exact h
def acO (p q:L1):GJ p.length (TZ p q) (FZ p q):=aeS fun a b ha hb h=>by
 rw[LV p q a b ha hb]at h;rw[LV p q b a hb ha];simp only[bN,decide_eq_true_eq]at h|-
 rcases h with h|h
 ·exact .inl h.symm
 ·exact .inr h.symm
def aFT (hm:bR m=true):(aeM m.length m).1=pX m:=
 aA4 (fun a b ha hb=>by rw[vM m a b ha hb];simp) fun a b ha hb h=>by
  rw[vM m a b ha hb]at h;rw[vM m b a hb ha,X9 hm b a];exact h
variable {M:List (List Bool)}{l:L1}
def ahC {M':List (List Bool)}{l':L1}(h:GJ n M l)(h':GJ n M' l')(hm:∀a b,a<n->b<n->a≠b->(atB M a b=true↔atB M' a b=true)):l=l':=by
 have hr:∀{M M':List (List Bool)},(∀a b,a<n->b<n->a≠b->(atB M a b=true->atB M' a b=true))->∀i k,Reach n M i k->Reach n M' i k:=by
  intro M M' hm i k hr
  induction hr with
  |refl=>exact .refl _
  | @step a b _ ha hb h ih=>
   by_cases hab:a=b
   ·subst hab;exact ih
   ·exact .step ih ha hb (hm a b ha hb hab h)
 refine RG.unique (by rw[h.1,h'.1]) h.2.1 h'.2.1 fun i k hi hk=> ?_;rw[h.1]at hi hk;rw[h.2.2 i k hi hk,h'.2.2 i k hi hk];exact⟨hr (fun a b ha hb hab=>(hm a b ha hb hab).1) i k,hr (fun a b ha hb hab=>(hm a b ha hb hab).2) i k⟩
def NF (h:GJ n M l)(h1:1<=n)(h8:n<=8):gD l=true:=isPart_iff.2 ⟨h.2.1,by rw[h.1];omega⟩
variable {cs:List Con}{X:L2}
def aA5 (hc:cO n cs=true)(hX:bR X=true)(hl:X.length=n)(h:∀a b,a<n->b<n->(0<at2 X a b↔∃c∈cs,PP c a b)):pX X=eH n cs:=by
 have h1:=O1 hX;rw[hl]at h1;refine ahC h1 (oD hc) fun a b ha hb _=> ?_;rw[vM X a b (by omega) (by omega),decide_eq_true_eq,(lN cs (uW hc)).2];exact h a b ha hb
def aA3 {p q:L1}(hX:bR X=true)(hl:X.length=p.length)(h:∀a b,a<p.length->b<p.length->a≠b->(0<at2 X a b↔at1 p a=at1 p b\/at1 q a=at1 q b)):pX X=FZ p q:=by
 have h1:=O1 hX;rw[hl]at h1;refine ahC h1 (acO p q) fun a b ha hb hab=> ?_;rw[vM X a b (by omega) (by omega),decide_eq_true_eq,LV p q a b ha hb,bN,decide_eq_true_eq,decide_eq_true_eq];exact h a b ha hb hab
def LF (hm:bR m=true)(hc:cO m.length cs=true):dJ m cs=FZ (pX m) (eH m.length cs)/\gD (dJ m cs)=true/\(dJ m cs).length=m.length:=by
 have hml:=dM hm;have h1:=O1 hm;have h2:=oD hc
 have hp:mV (pX m) (eH m.length cs)=true:=by
  simp only[mV,k_Bool_and_eq_true,decide_eq_true_eq];exact⟨⟨NF h1 hml.1 hml.2,NF h2 hml.1 hml.2⟩,by rw[h1.1,h2.1]⟩
 have e:dJ m cs=FZ (pX m) (eH m.length cs):=by
  rw[dJ,if_pos ⟨hm,hc⟩,apK,if_pos hp]
 have h3:=acO (pX m) (eH m.length cs);rw[h1.1]at h3;rw[e];exact⟨rfl,NF h3 hml.1 hml.2,h3.1⟩
def TL (hr:RG l){v:Nat}(hv:v<(blocksP l).length):QN l.length (gat (blocksP l) v)/\1<=(gat (blocksP l) v).length/\(gat (blocksP l) v).length<=l.length:=by
 have hI:=blocksI hr (k_Nat_le_refl l.length);have hrow:=hI.row v hv;have e:gat (blocksP l) v=((List.range l.length).filter fun j=>decide (at1 l j=v)).map fun j:Nat=>(j:Int):=hrow;rw[e];refine⟨⟨fun x hx=> ?_,?_⟩,?_,?_⟩
 ·obtain⟨j,hj,rfl⟩:=dG.1 hx;have:=bB.1 (bQ.1 hj).1;omega
 ·rw[zO];refine pU _ (List.pairwise_lt_range.imp fun h=>by omega)
 ·obtain⟨j,hj,e2⟩:=hI.ex v (by omega) (by have:(blocksP l).length=(loopN l.length [] (pM l)).length:=rfl;omega);have hm:((j:Nat):Int)∈((List.range l.length).filter fun j=>decide (at1 l j=v)).map fun j:Nat=>(j:Int):=dG.2 ⟨j,bQ.2 ⟨bB.2 hj,by simpa using e2⟩,rfl⟩;exact List.length_pos_of_mem hm
 ·rw[aQ];have:=aZ (fun j=>decide (at1 l j=(v:Int))) (List.range l.length);simpa using this
variable {items:L1}
def alN {i k:Nat}(hi:i<items.length)(hk:k<items.length):at2 (kQ m items) i k=at2 m (at1 items i).toNat (at1 items k).toNat:=by
 have h1:=aY hi;have h2:=aY hk;refine QR (r:=items.map fun y=>at2 m (at1 items i).toNat y.toNat) ?_ ?_
 ·simp[kQ,h1]
 ·simp[h2]
def azS (hm:bR m=true)(hl:1<=items.length/\items.length<=8)(hs:items.Pairwise (·<·)):bR (kQ m items)=true:=by
 have hlen:(kQ m items).length=items.length:=by simp[kQ]
 simp only[bR,k_Bool_and_eq_true,aH,bB,decide_eq_true_eq];refine⟨⟨fun r hr=> ?_,fun i hi k hk=> ?_⟩,by rw[hlen];omega⟩
 ·obtain⟨x,_,rfl⟩:=dG.1 hr;simp[hlen]
 ·rw[hlen]at hi hk;simp only[JY,k_Bool_and_eq_true,decide_eq_true_eq,bN];rw[alN hi hk,alN hk hi];have h1:=iL hm (at1 items i).toNat (at1 items k).toNat;refine⟨⟨h1,X9 hm _ _⟩,?_⟩;by_cases e:i=k
  ·subst e;right;by_cases hx:(at1 items i).toNat<m.length
   ·simp only[bR,k_Bool_and_eq_true,aH,bB]at hm;have:=hm.1.2 _ hx _ hx;simp only[JY,k_Bool_and_eq_true,decide_eq_true_eq,bN]at this;rcases this.2 with h|h
    ·exact absurd rfl h
    ·exact h
   ·simp[at2,aC,k_List_getElem__eq_none (show m.length<=(at1 items i).toNat by omega)]
  ·exact .inl e
def EY {x:Int}(h:0<=place items x):(place items x).toNat<items.length/\at1 items (place items x).toNat=x:=by
 unfold place ix at h|-
 cases hf:items.findIdx? (fun y=>decide (y=x))with
 |none=>rw[hf]at h;simp at h
 |some i=>
  simp only;obtain⟨hi,he,_⟩:=fF.1 hf;have h1:=aY hi;rw[aB hi]at h1;have:=k_Option_some_inj h1;exact⟨by omega,by rw[show((i:Int)).toNat=i by omega,←this];simpa using he⟩
def aEK (hc:cO n cs=true)(hs:QN n items)(hl:1<=items.length/\items.length<=8):cO items.length (iK cs items)=true:=by
 have h1:=mQ hc;simp only[cO,k_Bool_and_eq_true,aH,decide_eq_true_eq];refine⟨⟨fun c hcs=> ?_,by omega⟩,?_⟩
 ·obtain⟨c0,h2,h3⟩:=jU.1 hcs;unfold BG at h3;split at h3
  ·rename_i hp;obtain rfl:=k_Option_some_inj h3;obtain⟨a1,a2⟩:=EY hp.1;obtain⟨b1,b2⟩:=EY hp.2;have h4:=h1.2.2.2 c0 h2;simp only[PW,k_Bool_and_eq_true,decide_eq_true_eq];refine⟨⟨by omega,by omega⟩,?_⟩;rcases pG (place items c0.a).toNat (place items c0.b).toNat with h|h|h
   ·omega
   ·rw[h]at a2;omega
   ·have:=dR.1 hs.2 _ _ b1 a1 h;have e1:=aY a1;have e2:=aY b1;rw[aB a1]at e1;rw[aB b1]at e2;rw[k_Option_some_inj e1,k_Option_some_inj e2]at this;omega
  ·cases h3
 ·have:=iQ (BG items) cs;unfold iK;omega
def ah4 (hc:eQ n cs=true)(hs:QN n items)(hl:1<=items.length/\items.length<=8):eQ items.length (iK cs items)=true:=by
 obtain⟨h1,h2⟩:=jA.1 hc;have h3:=aEK h1 hs hl
 have hat:∀i<items.length,(at1 items i).toNat<n:=fun i hi=>by
  have:=hs.1 _ (aA (aY hi));omega
 refine jA.2 ⟨h3,fun c hcs hsame hr=> ?_⟩
 have key:∀i k,i<items.length->Reach items.length (nR items.length (iK cs items)) i k->Reach n (nR n cs) (at1 items i).toNat (at1 items k).toNat:=by
  intro i k hi hr
  induction hr with
  |refl=>exact .refl _
  | @step a b _ ha hb h ih=>
   refine .step ih (hat a ha) (hat b hb) ?_;rw[(lN _ (uW h3)).2]at h;obtain⟨c,hc1,hc2,hc3⟩:=h;obtain⟨c0,g1,g2⟩:=jU.1 hc1;unfold BG at g2;split at g2
   ·rename_i hp;obtain rfl:=k_Option_some_inj g2;simp only at hc2 hc3;obtain⟨a1,a2⟩:=EY hp.1;obtain⟨b1,b2⟩:=EY hp.2;have hc0:=uW h1 c0 g1;rw[(lN _ (uW h1)).2];refine⟨c0,g1,hc2,?_⟩;rcases hc3 with⟨e1,e2⟩|⟨e1,e2⟩
    ·left;have ea:(place items c0.a).toNat=a:=by omega
     have eb:(place items c0.b).toNat=b:=by omega
     rw[ea]at a2;rw[eb]at b2;omega
    ·right;have ea:(place items c0.a).toNat=b:=by omega
     have eb:(place items c0.b).toNat=a:=by omega
     rw[ea]at a2;rw[eb]at b2;omega
   ·cases g2
 obtain⟨c0,g1,g2⟩:=jU.1 hcs;unfold BG at g2;split at g2
 ·rename_i hp;obtain rfl:=k_Option_some_inj g2;simp only at hsame hr;obtain⟨a1,a2⟩:=EY hp.1;obtain⟨b1,b2⟩:=EY hp.2;have:=key _ _ a1 hr;rw[a2,b2]at this;exact h2 c0 g1 hsame this
 ·cases g2
end Go.Pl
end
section
namespace Go
def mU:= @List.nodup_append
def bS:= @List.take_length
def tF:= @List.take_sublist
end Go
end
section
namespace Go.Pl
open Go.Dv
def JU (n:Int)(l:L1):Bool:=l.all (fun x=>inR x 0 (n-1))&&decide l.Nodup&&inR n 1 8&&decide ((l.length:Int)=n)
def ay8 (n:Int)(l:L1)(i s:Nat):Prop:=(0<i->n<=8)/\s<256/\(∀x∈l.take i,0<=x/\x<n)/\(l.take i).Nodup/\∀x<8,s.testBit x=decide ((x:Int)∈l.take i)
def azA (n:Int)(l:L1):ay8 n l 0 0:=⟨by omega,by omega,by simp,by simp,fun x _=>by simp⟩
variable {l:L1}{i:Nat}
def aaX (h:i<l.length):l.take (i+1)=l.take i++[at1 l i]:=dE (aY h)
def ahM {x:Int}:(l++[x]).Nodup↔l.Nodup/\x∉l:=by
 rw[mU];constructor
 ·rintro⟨h1,_,h2⟩;exact⟨h1,fun h=>h2 x h x (by simp) rfl⟩
 ·rintro⟨h1,h2⟩;refine⟨h1,by simp,fun a ha b hb=> ?_⟩;rw[k_List_mem_singleton.1 hb];rintro rfl;exact h2 ha
def ahS {n:Int}{s:Nat}(h:ay8 n l i s)(hi:i<l.length)(hb:(at1 l i<0\/n<=at1 l i)\/8<n\/s.testBit (at1 l i).toNat=true):JU n l=false:=by
 rw[kE];intro ho;simp only[JU,k_Bool_and_eq_true,aH,decide_eq_true_eq]at ho;obtain⟨⟨⟨h1,h2⟩,h3⟩,h4⟩:=ho;have hx:=h1 _ (aA (aY hi));rcases hb with hb|hb|hb
 ·omega
 ·omega
 ·obtain⟨_,_,_,_,g⟩:=h;rw[g (at1 l i).toNat (by omega),decide_eq_true_eq,show(((at1 l i).toNat:Nat):Int)=at1 l i by omega]at hb;have h5:(l.take (i+1)).Nodup:=List.Nodup.sublist (tF _ _) h2;rw[aaX hi]at h5;exact(ahM.1 h5).2 hb
def ay9 {n:Int}{s:Nat}(h:ay8 n l i s)(hi:i<l.length)(hx:0<=at1 l i/\at1 l i<n)(hn:n<=8)(hs:s.testBit (at1 l i).toNat=false):ay8 n l (i+1) (s|||2^(at1 l i).toNat):=by
 obtain⟨g1,g2,g3,g4,g5⟩:=h;have hpow:2^(at1 l i).toNat<2^8:=Nat.pow_lt_pow_right (by omega) (by omega);refine⟨fun _=>hn,Nat.or_lt_two_pow (n:=8) g2 hpow,fun x hxm=> ?_,?_,fun x hx8=> ?_⟩
 ·rw[aaX hi]at hxm;rcases k_List_mem_append.1 hxm with h|h
  ·exact g3 x h
  ·rw[k_List_mem_singleton.1 h];exact hx
 ·rw[aaX hi,ahM];refine⟨g4,fun hm=> ?_⟩;rw[g5 _ (by omega),decide_eq_false_iff_not]at hs;apply hs;rw[show(((at1 l i).toNat:Nat):Int)=at1 l i by omega];exact hm
 ·rw[Nat.testBit_or,Nat.testBit_two_pow,g5 x hx8,aaX hi,bM,bN,decide_eq_true_eq,decide_eq_true_eq,decide_eq_true_eq,k_List_mem_append,k_List_mem_singleton];refine or_congr_right ⟨fun h=>by omega,fun h=>by omega⟩
def aEC {n:Int}{s:Nat}(h:ay8 n l l.length s):JU n l=(inR n 1 8&&decide ((l.length:Int)=n)):=by
 obtain⟨g1,g2,g3,g4,g5⟩:=h;rw[bS]at g3 g4
 have h1:l.all (fun x=>inR x 0 (n-1))=true:=by
  rw[aH];intro x hx;have:=g3 x hx;simp;omega
 have h2:decide l.Nodup=true:=by simpa using g4
 rw[JU,h1,h2,fD,fD]
def A7 (m:L2)(p x:Int)(k:Nat)(l:L1):L1:=if at1 l k<0/\((k:Int)=p\/at2 m p.toNat k>0)then l.set k x else l
def pivOne (m:L2)(order:L1)(i:Nat)(l:L1):L1:=if 0<=at1 l (at1 order i).toNat then l else loopN m.length l (A7 m (at1 order i) i)
def aeY (m:L2)(order:L1):L1:=loopN order.length (List.replicate m.length (-1)) (pivOne m order)
def kX (m:L2)(order:L1):L1:=canon (aeY m order)
def rot (n s:Nat):L1:=(List.range n).map fun i=>(((s+i) % n:Nat):Int)
def zD (m:L2)(s:Nat)(b:L1×Int):L1×Int:=if b.2<0\/dP m (kX m (rot m.length s))<b.2 then(kX m (rot m.length s),dP m (kX m (rot m.length s)))else b
def lS (m:L2):L1×Int:=loopN m.length ([], -1) (zD m)
def acC:∀(l:L1) (s:L1×L1),(l.foldl jM s).1.length=s.1.length+l.length
 |[],s=>by simp
 |x::l,s=>by
  have h:(jM s x).1.length=s.1.length+1:=by unfold jM;split<;>simp
  rw[k_List_foldl_cons,acC l,h,k_List_length_cons];omega
def qF (l:L1):(canon l).length=l.length:=by simp[canon,acC]
def aq7 (m:L2)(p x:Int)(k:Nat)(l:L1):(A7 m p x k l).length=l.length:=by unfold A7;split<;>simp
variable {n:Nat}
def BO {f:Nat->L1->L1}(h:∀k l,(f k l).length=l.length):(loopN n l f).length=l.length:=loopN_inv (fun _ (x:L1)=>x.length=l.length) rfl fun i x _ hx=>by rw[h,hx]
def auG (m:L2)(o:L1)(i:Nat)(l:L1):(pivOne m o i l).length=l.length:=by
 unfold pivOne;split
 ·rfl
 ·exact BO (aq7 m _ _)
def XP (m:L2)(o:L1):(kX m o).length=m.length:=by
 unfold kX aeY;rw[qF,BO (auG m o)];simp
def Z0 (h:JU n l=true):l.length=n/\1<=n/\n<=8/\l.Nodup/\∀i<l.length,0<=at1 l i/\at1 l i<n:=by
 simp only[JU,k_Bool_and_eq_true,aH,decide_eq_true_eq]at h;obtain⟨⟨⟨h1,h2⟩,h3⟩,h4⟩:=h;refine⟨by omega,by omega,by omega,h2,fun i hi=> ?_⟩;have:=h1 _ (aA (aY hi));omega
def awI {s:Nat}(hn:1<=n/\n<=8)(hs:s<n):JU n (rot n s)=true:=by
 have hb:∀n'≤8,∀s'<n',JU (n':Nat) (rot n' s')=true:=by decide
 exact hb n hn.2 s hs
def D7 (l:L1):Int:=loopN l.length (-1) fun i t=>max t (at1 l i)
def zU (l:L1)(x y:Int):Bool:=gD l&&inR x 0 ((l.length:Int)-1)&&inR y 0 (D7 l+1)
def sK (l:L1)(x y:Int):L1:=if zU l x y=true then canon (l.set x.toNat y)else l
def xL (m:L2)(l:L1):Int:=if bR m=true/\gD l=true/\l.length=m.length then dP m l else -1
def NB (m:L2)(l:L1)(x y:Int):Int:=if zU l x y=true/\0<=xL m l then xL m l-xL m (sK l x y)else 0
def keepP (cs:List Con)(l:L1):Bool:=cs.all (yZ l)&&gD l
def zC (m:L2)(cs:List Con)(l:L1)(i k:Nat)(b:Mov):Mov:=if zU l i k=true/\NB m l i k>b.gain/\keepP cs (sK l i k)=true then⟨i,k,NB m l i k⟩else b
def afH (m:L2)(cs:List Con)(l:L1)(i:Nat)(b:Mov):Mov:=loopN (l.length+1) b (zC m cs l i)
def an6 (m:L2)(cs:List Con)(l:L1):Bool:=decide (0<=xL m l)&&keepP cs l
def nC (m:L2)(cs:List Con)(l:L1):Mov:=if an6 m cs l=true then loopN l.length ⟨0,0,0⟩ (afH m cs l)else⟨0,0,0⟩
def sD (m:L2)(cs:List Con):Nat->L1->L1
 |0,l=>l
 |f+1,l=>if 0<(nC m cs l).gain then sD m cs f (sK l (nC m cs l).item (nC m cs l).block)else l
def UE (l:L1)(x y:Int):(sK l x y).length=l.length:=by unfold sK;split;(rw[qF];simp);rfl
def ar0 (h:gD l=true): -1<=D7 l/\D7 l<=8:=by
 have h1:=isPart_iff.1 h;have key:∀j≤l.length, -1<=loopN j (-1) (fun i t=>max t (at1 l i)):=fun j _=>loopN_inv (fun _ (t:Int)=> -1<=t) (by omega) fun i t _ ht=>by omega
 refine⟨key _ (k_Nat_le_refl _),?_⟩
 have h2:∀i<l.length,at1 l i<=i:=by
  intro i hi
  induction i using Nat.strongRecOn with
  |_ i ih=>
   rcases uB (i:Int) (at1 l i)with hlt|hle
   ·-- more smaller labels than places
    exfalso;obtain⟨j,hj,e⟩:=(h1.1 i hi).2 i (by omega) hlt;have:=ih j hj (by omega);omega
   ·exact hle
 refine loopN_inv (n:=l.length) (fun _ (t:Int)=>t<=8) (by omega) fun i t hi ht=> ?_;have:=h2 i hi;omega
def DD (m:L2)(l:L1): -1<=xL m l/\xL m l<=1000000:=by
 unfold xL;split
 ·rename_i h;have h0:=kU h.1 l;have h8:=isPart_len h.2.1;refine⟨by omega,?_⟩
  have row:∀(i:Nat) (s:Int),i<l.length->AU m l i s<=s+1000*i:=fun i s _=>by
   have:=loopN_inv (n:=i) (s:=s) (f:=fun k s=>s+tL m l i k) (fun k (t:Int)=>t<=s+1000*k) (by omega) (fun k t _ ht=>by
    have:=iL h.1 i k;simp only[tL];split
    ·omega
    ·split<;>omega)
   exact this
  have key:=loopN_inv (n:=l.length) (s:=0) (f:=AU m l) (fun i (s:Int)=>s<=8000*i) (by omega) (fun i s hi hs=>by have:=row i s hi;omega);unfold dP;omega
 ·omega
def ao7 (m:L2)(l:L1)(x y:Int): -2000000<=NB m l x y/\NB m l x y<=2000000:=by
 have h1:=DD m l;have h2:=DD m (sK l x y);unfold NB;split<;>omega
def apZ (x:Int)(s:L1)(n:Nat):(vJ x s n<0->∀j<n,at1 s j≠x)/\(0<=vJ x s n->vJ x s n<n/\at1 s (vJ x s n).toNat=x):=by
 induction n with
 |zero=>exact⟨fun _ j hj=>by omega,fun h=>by simp[vJ,loopN_zero]at h⟩
 |succ n ih=>
  have e:vJ x s (n+1)=if at1 s n=x then(n:Int)else vJ x s n:=by rw[vJ,aM];rfl
  rw[e];split
  ·rename_i h;exact⟨fun h2=>by omega,fun _=>⟨by omega,by simpa using h⟩⟩
  ·rename_i h;refine⟨fun h2 j hj=> ?_,fun h2=> ?_⟩
   ·by_cases hjn:j=n
    ·subst hjn;exact h
    ·exact ih.1 h2 j (by omega)
   ·have:=ih.2 h2;exact⟨by omega,this.2⟩
structure aFN (l:L1) (i:Nat) (s:L1×L1):Prop where
 len:s.1.length=i
 at_:∀j<i,0<=at1 s.1 j/\at1 s.1 j<s.2.length/\at1 s.2 (at1 s.1 j).toNat=at1 l j
 nd:∀a b:Nat,a<s.2.length->b<s.2.length->at1 s.2 a=at1 s.2 b->a=b
 ex:∀v:Int,0<=v->v<s.2.length->∃j<i,at1 s.1 j=v
 rg:RG s.1
def aFN.step {l:L1}{i:Nat}{s:L1×L1}(h:aFN l i s)(hi:i<l.length):aFN l (i+1) (jM s (at1 l i)):=by
 have hL:=apZ (at1 l i) s.2 s.2.length;unfold jM;have hsn:∀(x:Int) (j:Nat),j<i->at1 (s.1++[x]) j=at1 s.1 j:=fun x j hj=>by rw[lQ,if_pos (by rw[h.len];exact hj)]
 have hsi:∀x:Int,at1 (s.1++[x]) i=x:=fun x=>by rw[lQ,if_neg (by rw[h.len];omega),if_pos h.len.symm]
 split
 ·rename_i hneg;have hno:=hL.1 hneg;have hq:∀j<s.2.length,at1 (s.2++[at1 l i]) j=at1 s.2 j:=fun j hj=>by rw[lQ,if_pos hj]
  have hqn:at1 (s.2++[at1 l i]) s.2.length=at1 l i:=by rw[lQ,if_neg (by omega),if_pos rfl]
  refine⟨by simp[h.len],fun j hj=> ?_,fun a b ha hb e=> ?_,fun v h1 h2=> ?_,?_⟩
  ·simp only[aR,eF];by_cases hji:j=i
   ·subst hji;rw[hsi];exact⟨by omega,by omega,by simpa using hqn⟩
   ·obtain⟨g1,g2,g3⟩:=h.at_ j (by omega);rw[hsn _ j (by omega)];exact⟨g1,by omega,by rw[hq _ (by omega)];exact g3⟩
  ·simp only[aR,eF]at ha hb;by_cases ha2:a=s.2.length
   ·by_cases hb2:b=s.2.length
    ·omega
    ·rw[ha2,hqn,hq b (by omega)]at e;exact absurd e.symm (hno b (by omega))
   ·by_cases hb2:b=s.2.length
    ·rw[hb2,hqn,hq a (by omega)]at e;exact absurd e (hno a (by omega))
    ·rw[hq a (by omega),hq b (by omega)]at e;exact h.nd a b (by omega) (by omega) e
  ·simp only[aR,eF]at h2;by_cases hv:v=s.2.length
   ·exact⟨i,by omega,by rw[hsi,hv]⟩
   ·obtain⟨j,hj,e⟩:=h.ex v h1 (by omega);exact⟨j,by omega,by rw[hsn _ j hj,e]⟩
  ·have:=X6 (nx:=s.2.length) h.rg (fun v h1 h2=>by obtain⟨j,hj,e⟩:=h.ex v h1 h2;exact⟨j,by rw[h.len];exact hj,e⟩) (k_Nat_le_refl _);exact this
 ·rename_i hneg;obtain⟨hlt,hat⟩:=hL.2 (by omega);refine⟨by simp[h.len],fun j hj=> ?_,h.nd,fun v h1 h2=> ?_,?_⟩
  ·by_cases hji:j=i
   ·subst hji;rw[hsi];exact⟨by omega,hlt,hat⟩
   ·rw[hsn _ j (by omega)];exact h.at_ j (by omega)
  ·obtain⟨j,hj,e⟩:=h.ex v h1 h2;exact⟨j,by omega,by rw[hsn _ j hj,e]⟩
  ·have hn:vJ (at1 l i) s.2 s.2.length=((vJ (at1 l i) s.2 s.2.length).toNat:Int):=by omega
   rw[hn];exact X6 (nx:=s.2.length) h.rg (fun v h1 h2=>by obtain⟨j,hj,e⟩:=h.ex v h1 h2;exact⟨j,by rw[h.len];exact hj,e⟩)
def aLG (l:L1):∀i≤l.length,aFN l i ((l.take i).foldl jM ([],[])):=by
 intro i hi
 induction i with
 |zero=>exact⟨rfl,fun j hj=>by omega,fun a b ha=>by simp at ha,fun v h1 h2=>by simp at h2;omega,ar8⟩
 |succ i ih=>rw[dK jM ([],[]) (aY)];exact(ih (by omega)).step (by omega)
def MJ (l:L1):RG (canon l):=by
 have:=(aLG l l.length (k_Nat_le_refl _)).rg
 rwa [bS]at this
def ajN (l:L1)(i k:Nat)(hi:i<l.length:=by omega)(hk:k<l.length:=by omega):at1 (canon l) i=at1 (canon l) k↔at1 l i=at1 l k:=by
 have h:=aLG l l.length (k_Nat_le_refl _);rw[bS]at h;have h1:=h.at_ i hi;have h2:=h.at_ k hk;show at1 (l.foldl jM ([],[])).1 i=at1 (l.foldl jM ([],[])).1 k↔_;constructor
 ·intro e;rw[←h1.2.2,←h2.2.2,e]
 ·intro e;rw[←h1.2.2,←h2.2.2]at e;have:=h.nd _ _ (by omega) (by omega) e;omega
def an7 {a b:L1}(hl:a.length=b.length)(h:∀i k,i<a.length->k<a.length->(at1 a i=at1 a k↔at1 b i=at1 b k)):canon a=canon b:=by
 have h1:=qF a;have h2:=qF b;refine RG.unique (by omega) (MJ a) (MJ b) fun i k hi hk=> ?_;rw[ajN a i k,ajN b i k];exact h i k (by omega) (by omega)
def az9 (h:RG l):∀i<l.length,at1 l i<=i:=by
 intro i hi
 induction i using Nat.strongRecOn with
 |_ i ih=>
  rcases uB (i:Int) (at1 l i)with hlt|hle
  ·exfalso;obtain⟨j,hj,e⟩:=(h i hi).2 i (by omega) hlt;have:=ih j hj (by omega);omega
  ·exact hle
def mK (s:L2)(r:List Con):L1:=if keepP r (lS s).1=true then(lS s).1 else eH s.length r
def partOf (m:L2)(cs:List Con)(items:L1):L1:=
 if 6<items.length then sD (kQ m items) (iK cs items) 100 (mK (kQ m items) (iK cs items))else(ac4 (kQ m items) (iK cs items)).best
def aeD (items l:L1)(i:Int)(k:Nat)(L:L1):L1:=L.set (at1 items k).toNat (i*8+at1 l k)
def IC (m:L2)(cs:List Con)(bs:L2)(i:Nat)(L:L1):L1:=loopN (gat bs i).length L (aeD (gat bs i) (partOf m cs (gat bs i)) i)
def ajO (m:L2)(cs:List Con)(bs:L2):L1:=loopN bs.length (List.replicate m.length 0) (IC m cs bs)
def oG (m:L2)(cs:List Con):L1:=canon (ajO m cs (blocksP (dJ m cs)))
def nX (m:L2)(cs:List Con):L1:=if eQ m.length cs=true then oG m cs else[]
def akB (m:L2)(cs:List Con):∀(f:Nat) (l:L1),(sD m cs f l).length=l.length
 |0,l=>rfl
 |f+1,l=>by
  rw[sD];split
  ·rw[akB m cs f,UE]
  ·rfl
def aDK (h:RG l)(x y:Int):RG (sK l x y):=by
 unfold sK;split
 ·exact MJ _
 ·exact h
def apG (m:L2)(cs:List Con):∀(f:Nat) (l:L1),RG l->RG (sD m cs f l)
 |0,l,h=>h
 |f+1,l,h=>by
  rw[sD];split
  ·exact apG m cs f _ (aDK h _ _)
  ·exact h
variable {m:L2}
def V3 (hm:bR m=true):(lS m).1.length=m.length/\RG (lS m).1/\0<=(lS m).2:=by
 have hml:=dM hm
 have key:∀j≤m.length,1<=j->(loopN j ([], -1) (zD m)).1.length=m.length/\RG (loopN j ([], -1) (zD m)).1/\0<=(loopN j ([], -1) (zD m)).2:=by
  intro j hj h1
  induction j with
  |zero=>omega
  |succ j ih=>
   rw[aM];have hp:=kU hm (kX m (rot m.length j));have hl:=XP m (rot m.length j);unfold zD;split
   ·exact⟨hl,MJ _,hp⟩
   ·rename_i h;by_cases hj0:j=0
    ·subst hj0;simp[loopN_zero]at h
    ·exact ih (by omega) (by omega)
 exact key m.length (k_Nat_le_refl _) hml.1
variable {r:List Con}
def apL (h:gD l=true):keepP r l=nQ r l:=by simp[keepP,nQ,h]
variable {s:L2}
def XY (hs:bR s=true)(hr:cO s.length r=true):(mK s r).length=s.length/\RG (mK s r):=by
 have h1:=V3 hs;have h2:=oD hr;unfold mK;split
 ·exact⟨h1.1,h1.2.1⟩
 ·exact⟨h2.1,h2.2.1⟩
structure Part (m:L2) (cs:List Con) (items:L1):Prop where
 mat:bR (kQ m items)=true
 len:(kQ m items).length=items.length
 con:eQ items.length (iK cs items)=true
 are:cO items.length (iK cs items)=true
variable {cs:List Con}{items:L1}
def amV (hm:bR m=true)(hc:eQ m.length cs=true)(hs:QN m.length items)(h1:1<=items.length)(h8:items.length<=m.length):Part m cs items:=by
 have hml:=dM hm;have h3:=ah4 hc hs ⟨h1,by omega⟩;exact⟨azS hm ⟨h1,by omega⟩ hs.2,by simp[kQ],h3,(jA.1 h3).1⟩
def akW (h:Part m cs items):(partOf m cs items).length=items.length/\RG (partOf m cs items):=by
 unfold partOf;split
 ·have h2:=XY h.mat (r:=iK cs items) (by rw[h.len];exact h.are);refine⟨by rw[akB,h2.1,h.len],apG _ _ _ _ h2.2⟩
 ·rw[aaP h.mat (by rw[h.len];exact h.are)];have:=aFQ h.mat (cs:=iK cs items) (by rw[h.len];exact h.con);exact⟨by rw[this.2.2,h.len],this.2.1⟩
def SS (m:L2)(cs:List Con)(bs:L2)(i:Nat)(L:L1):(IC m cs bs i L).length=L.length:=BO fun k l=>by simp[aeD]
def aa9 (m:L2)(cs:List Con)(bs:L2):(ajO m cs bs).length=m.length:=by rw[ajO,BO (SS m cs bs)];simp
def aoB {w:L1}(n:Nat)(h:∀i<n,tK l w i=true):yJ l w n<=1000*uV w n:=by
 induction n with
 |zero=>simp[yJ,uV,loopN]
 |succ n ih=>
  have h1:=ih fun i hi=>h i (by omega);have h2:=h n (by omega);simp only[tK,k_Bool_and_eq_true,decide_eq_true_eq]at h2;have h3:at1 l n*at1 w n<=1000*at1 w n:=lZ h2.1.2 h2.2.1;have e1:yJ l w (n+1)=yJ l w n+at1 l n*at1 w n:=aM _ _ _;have e2:uV w (n+1)=uV w n+at1 w n:=aM _ _ _;rw[e1,e2];omega
def alY (l w:L1):0<=pO l w/\pO l w<=1000:=by
 unfold pO;split
 ·next h=>
  have h1:∀i<l.length,tK l w i=true:=fun i hi=>aH.1 h.2 i (bB.2 hi);have a:=EC l.length h1;have b:=EB l.length h1;have c:=aoB l.length h1;split
  ·omega
  ·rename_i hne;rw[kT a.1];refine⟨Int.ediv_nonneg a.1 b.1,?_⟩;exact Int.ediv_le_of_le_mul (by omega) c
 ·omega
def SN (s:Sco)(f:L1):0<=jP s f/\jP s f<=1000:=by
 unfold jP;split
 ·exact alY _ _
 ·omega
def aeC (rs:List (List Tst))(s:Sco)(f:L1): -1000<=iZ rs s f/\iZ rs s f<=1000:=by
 unfold iZ;split
 ·next h=>
  have h1:=SN s f;have h2:=h.2.1;simp only[mO,k_Bool_and_eq_true,inR,decide_eq_true_eq]at h2;have h3:=h2.2;split<;>omega
 ·omega
def VX (l:List Rec)(rs:List (List Tst))(s:Sco)(i k:Nat):mP l rs s i k=mP l rs s k i:=by
 unfold mP;rw[Nat.min_comm,Nat.max_comm];by_cases h:i=k
 ·simp[h]
 ·rw[if_neg h,if_neg (k_Ne_symm h)]
variable {k:Nat}
def X3 (l:List Rec)(rs:List (List Tst))(s:Sco)(hi:i<l.length)(hk:k<l.length):at2 (weights l rs s) i k=mP l rs s i k:=by
 simp[at2,weights,yV,hi,hk]
def ME {l:List Rec}(rs:List (List Tst))(s:Sco)(h:1<=l.length/\l.length<=8):bR (weights l rs s)=true:=by
 have hl:(weights l rs s).length=l.length:=by simp[weights]
 simp only[bR,k_Bool_and_eq_true,aH,bB,decide_eq_true_eq,hl];refine⟨⟨fun r hr=> ?_,fun i hi k hk=> ?_⟩,by first|omega|(simp;omega)⟩
 ·simp only[weights,dG]at hr;obtain⟨i,_,rfl⟩:=hr;simp[yV]
 ·simp only[JY,k_Bool_and_eq_true,inR,decide_eq_true_eq,bN];rw[X3 l rs s hi hk,X3 l rs s hk hi];refine⟨⟨?_,VX l rs s i k⟩,?_⟩
  ·unfold mP;split
   ·omega
   ·exact aeC _ _ _
  ·by_cases h:i=k
   ·right;simp[mP,h]
   ·left;exact h
def aAE {l:List Ver}(v:Ver)(h:l.length<=8):(BA l v).length<=8:=by
 unfold BA;split
 ·next h2=>
  simp only[IQ,k_Bool_and_eq_true,decide_eq_true_eq]at h2;have:=aAD l v;simp only[aR,dD,rC,k_List_length_cons,jI];omega
 ·exact h
def atJ {α:Type}{P:α->Bool}{l:List α}{c:α}(h:P c=false):ix P (l++[c])=ix P l:=by
 unfold ix;rw[List.findIdx?_append];cases l.findIdx? P<;>simp[h]
def akE (x:Int){s:L1}(hs:s.Nodup):∀n,n<=s.length->vJ x s n=ix (fun y=>decide (x=y)) (s.take n)
 |0,_=>by simp[vJ,loopN,ix]
 |n+1,h=>by
  have ih:=akE x hs n (by omega);have e:vJ x s (n+1)=if at1 s n=x then(n:Int)else vJ x s n:=aM _ _ _
  obtain⟨c,hc⟩:=aO (l:=s) (i:=n);have hca:at1 s n=c:=by have:=aY (l:=s) (i:=n);rw[hc]at this;exact(k_Option_some_inj this).symm
  rw[e,hca,dE hc];by_cases hx:c=x
  ·rw[if_pos hx];have hl:(s.take n).length=n:=by rw[dD];omega
   have h1:(s.take n++[c])[n]?=some c:=by rw[aN (by omega),hl];simp
   have hno:((s.take n++[c]).take n).any (fun y=>decide (x=y))=false:=by
    rw[List.take_append_of_le_length (by simp;omega)];rw[gX];intro y hy;simp only[List.take_take,Nat.min_self]at hy;have hnd:(s.take (n+1)).Nodup:=hs.sublist (tF _ _);rw[dE hc,mU]at hnd;have:=hnd.2.2 y hy c (by simp);simp;omega
   exact(DZ h1 hno (by simp[hx])).symm
  ·rw[if_neg hx,ih,atJ (by simp;omega)]
def Z8 (m:L2)(i k:Nat):Bool:=inR (at2 m i k) (-1000) 1000&&decide (at2 m k i=at2 m i k)
def G7 (m:L2)(i:Nat):Bool:=decide ((gat m i).length=m.length)&&decide (at2 m i i=0)&&(List.range i).all (Z8 m i)
def abR (m:L2):bR m=((List.range m.length).all (G7 m)&&inR m.length 1 8):=by
 rw[bM];simp only[bR,G7,Z8,JY,k_Bool_and_eq_true,aH,bB,decide_eq_true_eq,bN];constructor
 ·rintro⟨⟨h1,h2⟩,h3⟩;refine⟨fun i hi=>⟨⟨?_,?_⟩,fun k hk=> ?_⟩,h3⟩
  ·obtain⟨r,hr⟩:=aO hi;rw[CU hr];exact h1 r (aA hr)
  ·have:=(h2 i hi i hi).2;simpa using this
  ·have a:=(h2 i hi k (by omega)).1;exact⟨a.1,a.2.symm⟩
 ·rintro⟨h,h3⟩;refine⟨⟨fun r hr=> ?_,fun i hi k hk=> ?_⟩,h3⟩
  ·obtain⟨i,hi⟩:=dF hr;have:=(h i (dH hi)).1.1
   rwa [CU hi]at this
  ·rcases pG i k with hlt|rfl|hlt
   ·have a:=(h k hk).2 i hlt;exact⟨⟨by rw[a.2];exact a.1,a.2⟩,.inl (by omega)⟩
   ·have a:=(h i hi).1.2;exact⟨⟨by omega,rfl⟩,.inr a⟩
   ·have a:=(h i hi).2 k hlt;exact⟨⟨a.1,a.2.symm⟩,.inl (by omega)⟩
def aqF (h:k<i)(hp:Z8 m i k=false):G7 m i=false:=by
 unfold G7;rw[nM h hp,Bool.and_false]
def ayH (h1:(gat m i).length=m.length)(h2:at2 m i i=0)(h:(List.range i).all (Z8 m i)=true):G7 m i=true:=by
 unfold G7;rw[h];simp[h1,h2]
def zeros (n:Nat):L2:=List.replicate n (List.replicate n 0)
def set2 (m:L2)(i k:Nat)(v:Int):L2:=m.set i ((gat m i).set k v)
def sq2 (n:Nat)(m:L2):Prop:=m.length=n/\∀r∈m,r.length=n
def qL (n:Nat):sq2 n (zeros n):=⟨by simp[zeros],fun r hr=>by obtain⟨_,rfl⟩:=nZ.1 hr;simp⟩
def tJ (h:sq2 n m)(hi:i<n:=by omega):m[i]?=some (gat m i)/\(gat m i).length=n:=by
 obtain⟨r,hr⟩:=aO (l:=m) (i:=i) (by rw[h.1];exact hi);rw[CU hr];exact⟨hr,h.2 r (aA hr)⟩
def aeJ (m:L2)(i k:Nat):at2 m i k=at1 (gat m i) k:=rfl
def O6 (h:sq2 n m)(hi:i<n:=by omega)(hk:k<n:=by omega):(gat m i)[k]?=some (at2 m i k):=by
 rw[aeJ];exact aY (by rw[(tJ h hi).2];exact hk)
def yS (h:sq2 n m)(hi:i<n)(v:Int):sq2 n (set2 m i k v):=by
 refine⟨by simp[set2,h.1],fun r hr=> ?_⟩;rcases jJ hr with h1|rfl
 ·exact h.2 r h1
 ·simp[(tJ h hi).2]
def FL (h:sq2 n m)(hi:i<n)(hk:k<n)(v:Int)(a b:Nat):at2 (set2 m i k v) a b=if a=i/\b=k then v else at2 m a b:=by
 rw[aeJ,set2,avX a (by rw[h.1];exact hi)];by_cases ha:i=a
 ·subst ha;rw[if_pos rfl,AR b (by rw[(tJ h hi).2];exact hk),aeJ];by_cases hb:k=b
  ·subst hb;simp
  ·rw[if_neg hb,if_neg (by omega)]
 ·rw[if_neg ha,if_neg (by omega),aeJ]
def MI (n a b:Nat):at2 (zeros n) a b=0:=by
 by_cases ha:a<n<;>by_cases hb:b<n<;>simp[at2,zeros,aC,ha,hb]
def ak5 (h:sq2 n m)(hn:1<=n/\n<=8)(hr:∀a b,a<n->b<n-> -1000<=at2 m a b/\at2 m a b<=1000/\at2 m a b=at2 m b a)(hd:∀a<n,at2 m a a=0):bR m=true:=by
 rw[abR,h.1];simp only[G7,Z8,k_Bool_and_eq_true,aH,bB,decide_eq_true_eq];refine⟨fun i hi=>⟨⟨?_,hd i hi⟩,fun k hk=> ?_⟩,by omega⟩
 ·rw[(tJ h hi).2,h.1]
 ·have:=hr i k hi (by omega);exact⟨⟨this.1,this.2.1⟩,this.2.2.symm⟩
def rU (m:L2)(c:Con):L2:=if c.same then set2 (set2 m c.a.toNat c.b.toNat 1) c.b.toNat c.a.toNat 1 else m
def SG (n:Nat)(l:List Con):L2:=l.foldl rU (zeros n)
def aaC {c:Con}(h:sq2 n m)(hc:0<=c.a/\c.a<c.b/\c.b<(n:Int)):sq2 n (rU m c):=by
 unfold rU;split
 ·exact yS (yS h (by omega) 1) (by omega) 1
 ·exact h
def agU :∀(cs:List Con) (m:L2),sq2 n m->(∀c∈cs,0<=c.a/\c.a<c.b/\c.b<(n:Int))->sq2 n (cs.foldl rU m)/\∀a b,at2 (cs.foldl rU m) a b=if(cs.any fun c=>c.same&&(decide (c.a=a/\c.b=b)||decide (c.a=b/\c.b=a)))=true then 1 else at2 m a b
 |[],m,h,_=>⟨h,fun a b=>by simp⟩
 |c::cs,m,h,hc=>by
  have h0:=hc c (by simp);obtain⟨h1,h2⟩:=agU cs (rU m c) (aaC h h0) fun d hd=>hc d (by simp[hd]);refine⟨h1,fun a b=> ?_⟩;rw[k_List_foldl_cons,h2,List.any_cons];by_cases hx:(cs.any fun c=>c.same&&(decide (c.a=a/\c.b=b)||decide (c.a=b/\c.b=a)))=true
  ·rw[if_pos hx,hx,Bool.or_true,if_pos rfl]
  ·have hx2:(cs.any fun c=>c.same&&(decide (c.a=a/\c.b=b)||decide (c.a=b/\c.b=a)))=false:=by simpa using hx
   rw[if_neg hx,hx2,Bool.or_false];unfold rU;cases hs:c.same with
   |false=>simp
   |true=>
    simp only[if_true,fD];rw[FL (yS h (by omega) 1) (by omega) (by omega),FL h (by omega) (by omega)];by_cases h3:a=c.b.toNat/\b=c.a.toNat
    ·rw[if_pos h3,if_pos];simp only[bN,decide_eq_true_eq];omega
    ·rw[if_neg h3];by_cases h4:a=c.a.toNat/\b=c.b.toNat
     ·rw[if_pos h4,if_pos];simp only[bN,decide_eq_true_eq];omega
     ·rw[if_neg h4,if_neg];simp only[bN,decide_eq_true_eq];omega
def ahJ (hc:cO n cs=true):sq2 n (SG n cs)/\∀a b,(at2 (SG n cs) a b=0\/at2 (SG n cs) a b=1)/\(0<at2 (SG n cs) a b↔∃c∈cs,PP c a b):=by
 obtain⟨h1,h2⟩:=agU cs (zeros n) (qL n) (uW hc);refine⟨h1,fun a b=> ?_⟩;have h3:=h2 a b;rw[MI]at h3;rw[SG,h3]
 have h4:(cs.any fun c=>c.same&&(decide (c.a=a/\c.b=b)||decide (c.a=b/\c.b=a)))=true↔∃c∈cs,PP c a b:=by
  simp[cZ,PP]
 rw[←h4];by_cases h:(cs.any fun c=>c.same&&(decide (c.a=a/\c.b=b)||decide (c.a=b/\c.b=a)))=true
 ·rw[if_pos h];exact⟨.inr rfl,fun _=>h,fun _=>by omega⟩
 ·rw[if_neg h];exact⟨.inl rfl,fun h2=>absurd h2 (by omega),fun h2=>absurd h2 h⟩
def acX (hc:cO n cs=true):bR (SG n cs)=true:=by
 obtain⟨h1,h2⟩:=ahJ hc;have hn:=mQ hc
 have hs:∀a b,at2 (SG n cs) a b=at2 (SG n cs) b a:=by
  intro a b;have e1:=(h2 a b).2;have e2:=(h2 b a).2;have e3:(∃c∈cs,PP c a b)↔∃c∈cs,PP c b a:=⟨fun⟨c,h,h'⟩=>⟨c,h,XF h'⟩,fun⟨c,h,h'⟩=>⟨c,h,XF h'⟩⟩;rw[e3,←e2]at e1;have:=(h2 a b).1;have:=(h2 b a).1;omega
 refine ak5 h1 (by omega) (fun a b _ _=> ?_) fun a ha=> ?_
 ·have:=(h2 a b).1;exact⟨by omega,by omega,hs a b⟩
 ·have e1:=(h2 a a).2;have e0:=(h2 a a).1;rcases e0 with e0|e0
  ·exact e0
  ·obtain⟨c,hm,_,hl⟩:=e1.1 (by omega);have:=uW hc c hm;omega
def at6 (hc:cO n cs=true):pX (SG n cs)=eH n cs:=
 aA5 hc (acX hc) (ahJ hc).1.1 fun a b _ _=>((ahJ hc).2 a b).2
def AZ (f:Nat->Nat->Bool)(i k:Nat)(m:L2):L2:=if f i k=true then set2 m i k 1 else m
def abX (n:Nat)(f:Nat->Nat->Bool)(i:Nat)(m:L2):L2:=loopN n m (AZ f i)
def ones (n:Nat)(f:Nat->Nat->Bool):L2:=loopN n (zeros n) (abX n f)
variable {f:Nat->Nat->Bool}
def ahQ (h:sq2 n m)(hi:i<n):sq2 n (AZ f i k m):=by
 unfold AZ;split
 ·exact yS h hi 1
 ·exact h
variable {j:Nat}
def ay7 (h:sq2 n m)(hi:i<n):sq2 n (loopN j m (AZ f i)):=loopN_inv (fun _ m=>sq2 n m) h fun k m _ hm=>ahQ hm hi
def awE (hj:j<=n):sq2 n (loopN j (zeros n) (abX n f)):=loopN_inv (fun _ m=>sq2 n m) (qL n) fun i m hi hm=>ay7 hm (by omega)
def aeW {a b:Nat}:at2 (ones n f) a b=if a<n/\b<n/\f a b=true then 1 else 0:=by
 have h:=loopN_inv (n:=n) (s:=zeros n) (f:=abX n f) (fun i m=>sq2 n m/\∀a b,at2 m a b=if a<i/\b<n/\f a b=true then 1 else 0) ⟨qL n,fun a b=>by rw[MI,if_neg (by omega)]⟩ fun i m hi ⟨h1,h2⟩=>by
  have h3:=loopN_inv (n:=n) (s:=m) (f:=AZ f i) (fun k m'=>sq2 n m'/\∀a b,at2 m' a b=if(a<i/\b<n\/a=i/\b<k)/\f a b=true then 1 else 0) ⟨h1,fun a b=>by rw[h2];split<;>split<;>first|rfl|(exfalso;simp_all;done)|(exfalso;grind)⟩ fun k m' hk ⟨h4,h5⟩=>by
   refine⟨ahQ h4 hi,fun a b=> ?_⟩;unfold AZ;split
   ·next hf=>
    rw[FL h4 hi hk,h5];by_cases hab:a=i/\b=k
    ·obtain⟨rfl,rfl⟩:=hab;simp[hf]
    ·rw[if_neg hab];split<;>split<;>first|rfl|(exfalso;grind)
   ·next hf=>
    rw[h5];split<;>split<;>first|rfl|(exfalso;grind)
  refine⟨h3.1,fun a b=> ?_⟩;rw[abX,h3.2];split<;>split<;>first|rfl|(exfalso;grind)
 exact h.2 a b
def D5 (p q:L1)(i k:Nat):Bool:=decide (i≠k)&&(decide (at1 p i=at1 p k)||decide (at1 q i=at1 q k))
def SA (p q:L1):L2:=ones p.length (D5 p q)
variable {p q:L1}
def acP (hp:1<=p.length/\p.length<=8):bR (SA p q)=true:=by
 refine ak5 (awE (k_Nat_le_refl _)) hp (fun a b ha hb=> ?_) fun a ha=> ?_
 ·have h1:D5 p q a b=D5 p q b a:=by
   unfold D5;rw[bM];simp only[k_Bool_and_eq_true,bN,decide_eq_true_eq];constructor<;>(rintro⟨h1,h2⟩;exact⟨by omega,by omega⟩)
  show -1000<=at2 (SA p q) a b/\at2 (SA p q) a b<=1000/\at2 (SA p q) a b=at2 (SA p q) b a;rw[SA,aeW,aeW,h1];refine⟨by split<;>omega,by split<;>omega,?_⟩;simp[ha,hb]
 ·show at2 (SA p q) a a=0;rw[SA,aeW,if_neg];simp[D5]
def atK (hp:1<=p.length/\p.length<=8):pX (SA p q)=FZ p q:=by
 refine aA3 (acP hp) (awE (k_Nat_le_refl _)).1 fun a b ha hb hne=> ?_;rw[SA,aeW];simp only[D5,ha,hb,true_and,k_Bool_and_eq_true,bN,decide_eq_true_eq];split
 ·next h=>simp[h.2]
 ·next h=>simp;omega
def ajS (m:L2)(l:L1)(i k:Nat):tL m l i k=if at1 l i=at1 l k then max 0 (- at2 m i k)else max 0 (at2 m i k):=by
 unfold tL;split<;>split<;>(try split)<;>omega
variable {a b:List Con}
def ahA (h:a.Perm b):keepP a=keepP b:=by
 funext l;unfold keepP;rw[h.all_eq]
def anU (h:a.Perm b)(l:L1):nC m a l=nC m b l:=by
 have h1:=ahA h;unfold nC an6 afH zC;rw[h1]
def ag5 (h:a.Perm b):∀(f:Nat) (l:L1),sD m a f l=sD m b f l
 |0,l=>rfl
 |f+1,l=>by rw[sD,sD,anU h,ag5 h f]
def am7 (h:a.Perm b)(ha:cO s.length a=true):mK s a=mK s b:=by
 unfold mK;rw[ahA h,aaB ha (by rw[←BZ h];exact ha) fun c=>h.mem_iff]
def aq5 (h:a.Perm b)(hp:Part m a items):partOf m a items=partOf m b items:=by
 have hr:=am0 h items;have ha:cO (kQ m items).length (iK a items)=true:=by rw[hp.len];exact hp.are
 unfold partOf;rw[am7 hr ha,ag5 hr,aaP hp.mat ha,aaP hp.mat (by rw[←BZ hr];exact ha),anT hr]
def aiS (hm:bR m=true)(h:a.Perm b):nX m a=nX m b:=by
 unfold nX;rw[PK h];split
 ·next hb=>
  have ha:eQ m.length a=true:=by rw[PK h];exact hb
  have hab:=(jA.1 hb).1
  have hsp:dJ m a=dJ m b:=by
   unfold dJ;rw[BZ h];split
   ·rw[aaB (jA.1 ha).1 hab fun c=>h.mem_iff]
   ·rfl
  have hsc:=LF hm hab;unfold oG ajO;rw[hsp];refine congrArg canon (yC fun i L hi=> ?_);have hsel:=TL (isPart_iff.1 hsc.2.1).1 hi;rw[hsc.2.2]at hsel;unfold IC;rw[aq5 h (amV hm ha hsel.1 hsel.2.1 hsel.2.2)]
 ·rfl
end Go.Pl
end
section
namespace Go
def kM:= @List.length_pos_iff
def sI:= @UInt8.toNat_ofNat'
end Go
end
section
namespace Go.Pl
open Go.Dv
def TJ (c:UInt8):UInt8:=if yH c=true then c else 32
def aFG {c:UInt8}{n:Nat}(hn:n<256)(h:c.toNat=n):c=UInt8.ofNat n:=by
 apply k_UInt8_toNat_inj.1;rw[h,sI];omega
def azQ (c:UInt8):DI c=if c.toNat=39 then[]else[TJ c]:=by
 unfold DI TJ;by_cases h9:c.toNat=39
 ·have hw:yH c=false:=by unfold yH;rw[h9];decide
  rw[if_pos h9,if_neg (by rw[hw,h9];simp),if_neg (by omega)]
 ·rw[if_neg h9];by_cases hw:yH c=true
  ·rw[if_pos (.inl hw),if_pos hw]
  ·rw[if_neg hw];by_cases h2:c.toNat=32
   ·rw[if_pos (.inr h2),aFG (by omega) h2];rfl
   ·rw[if_neg (by rintro(h|h);exact hw h;exact h2 h),if_pos h9]
def aEY (s:Str):(s.filter fun c=> !decide (c=39)).map TJ=yF s:=by
 unfold yF
 induction s with
 |nil=>rfl
 |cons c s ih=>
  rw[zN,←ih,azQ,List.filter_cons];by_cases h:c=39
  ·subst h;simp
  ·have:¬c.toNat=39:=fun e=>h (aFG (n:=39) (by omega) e);simp[h,this]
def YD (o:Str)(c:UInt8):Str:=if c≠32\/(o≠[]/\o.getLast?≠some 32)then o++[c]else o
def alA (o:Str):Str:=if o.getLast?=some 32 then o.dropLast else o
def avI (s:Str):∀i≤s.length,(s.take i).foldl YD []=loopN i [] (oH s)++(if loopN i [] (oH s)≠[]/\s.getD (i-1) 0=32 then[32]else[])/\(loopN i [] (oH s)).getLast?≠some 32
 |0,_=>by simp[loopN]
 |i+1,h=>by
  obtain⟨h1,h2⟩:=avI s i (by omega);obtain⟨c,hc⟩:=aO (l:=s) (i:=i);rw[dK YD [] hc,aM,oC,ZT hc];generalize loopN i [] (oH s)=o at h1 h2|-
  rw[h1];have h32:∀x:UInt8,x.toNat=32↔x=32:=fun x=>⟨fun e=>aFG (n:=32) (by omega) e,fun e=>by subst e;rfl⟩;unfold oH YD;rw[ZT hc];generalize s.getD (i-1) 0=q;simp only[h32];by_cases hs:c=32
  ·subst hs;rw[if_pos rfl];refine⟨?_,h2⟩;by_cases ho:o=[]
   ·subst ho;simp
   ·by_cases hp:q=32
    ·simp[ho,hp]
    ·simp[ho,hp,h2]
  ·rw[if_neg hs,if_pos (.inl hs)];refine⟨?_,by simp[hs]⟩;have:(0<o.length↔o≠[]):=by rw[kM]
   simp only[this,hs,and_false,if_false,dW];split<;>simp
def acG (s:Str):CJ s=alA (s.foldl YD []):=by
 obtain⟨h1,h2⟩:=avI s s.length (k_Nat_le_refl _);rw[bS]at h1;unfold alA CJ;rw[h1];generalize loopN s.length [] (oH s)=o at h2|-
 by_cases h:o≠[]/\s.getD (s.length-1) 0=32
 ·rw[if_pos h];simp
 ·rw[if_neg h,dW,if_neg h2]
def PG (s:Str):List Str:=(af0 32 s).filter fun x=>decide (x≠[])
def sV (s:Str×Int)(c:UInt8):Str×Int:=(if aP c>0/\aP c≠s.2 then s.1++[UInt8.ofNat (48+aP c).toNat]else s.1,if 0<=aP c then aP c else s.2)
variable {o:Str}
def aMG (x:UInt8)(h:o≠[]):(if(o.take 4).length<4 then o.take 4++[x]else o.take 4)=(o++[x]).take 4:=by
 match o with
 |[a]=>rfl
 |[a,b]=>rfl
 |[a,b,c]=>rfl
 |a::b::c::d::t=>simp
def awN:∀(s o:Str) (p:Int),o≠[]->s.foldl xC (o.take 4,p)=((s.foldl sV (o,p)).1.take 4,(s.foldl sV (o,p)).2)
 |[],o,p,h=>rfl
 |c::s,o,p,h=>by
  have h4:o.take 4≠[]:=by cases o with
   |nil=>exact absurd rfl h
   |cons a t=>simp
  rw[k_List_foldl_cons,k_List_foldl_cons]
  have e:xC (o.take 4,p) c=((sV (o,p) c).1.take 4,(sV (o,p) c).2):=by
   unfold xC sV;rw[if_neg h4];simp only;congr 1;by_cases h1:aP c>0/\aP c≠p
   ·rw[if_pos h1,←aMG _ h];by_cases h2:(o.take 4).length<4
    ·rw[if_pos ⟨h1.1,h1.2,h2⟩,if_pos h2]
    ·rw[if_neg (fun hh=>h2 hh.2.2),if_neg h2]
   ·rw[if_neg (fun hh=>h1 ⟨hh.1,hh.2.1⟩),if_neg h1]
  have hne:(sV (o,p) c).1≠[]:=by
   unfold sV;simp only;split
   ·simp
   ·exact h
  rw[e];exact awN s _ _ hne
def azC (h:o≠[]):aeB (o.take 4)=(o++[48,48,48]).take 4:=by
 match o with
 |[a]=>rfl
 |[a,b]=>rfl
 |[a,b,c]=>rfl
 |a::b::c::d::t=>simp[aeB]
def auT (c:UInt8)(s:Str)(h:(c::s).all (fun c=>decide (aP c≠ -2))=true):jK (c::s)=((s.foldl sV ([iT c],aP c)).1++[48,48,48]).take 4:=by
 unfold jK;rw[if_neg (by rw[h];simp),k_List_foldl_cons];have e:xC ([],0) c=(([iT c]:Str).take 4,aP c):=by simp[xC]
 rw[e,awN s _ _ (by simp),azC]
 have key:∀(s o:Str) (p:Int),o≠[]->(s.foldl sV (o,p)).1≠[]:=by
  intro s
  induction s with
  |nil=>exact fun o p h=>h
  |cons d s ih=>
   intro o p h;rw[k_List_foldl_cons];refine ih _ _ ?_;simp only;split
   ·simp
   ·exact h
 exact key s _ _ (by simp)
def auU {s:Str}(h:s.all (fun c=>decide (aP c≠ -2))=false):jK s=[]:=by
 unfold jK;rw[if_pos (.inr h)]
def aeF (c:UInt8):aP c=if 97<=(iT c).toNat/\(iT c).toNat<=122 then codeOf (iT c).toNat else -2:=by
 unfold aP;split
 ·rfl
 ·next h=>
  unfold codeOf;repeat(first|rfl|omega|split)
def aF6 (x y:Str)(tr:Bool):∀(s i j:Nat),i+j=s->ed x y tr i j=ed y x tr j i:=by
 intro s
 induction s using Nat.strongRecOn with
 |_ s ih=>
  intro i j h
  match i,j with
  |0,j=>rw[ed_zero,ed_zero']
  |i+1,0=>rw[ed_zero,ed_zero']
  |i+1,j+1=>
   have e1:=ih (i+j) (by omega) i j rfl;have e2:=ih (i+(j+1)) (by omega) i (j+1) rfl;have e3:=ih (i+1+j) (by omega) (i+1) j rfl;have e4:=ih (i-1+(j-1)) (by omega) (i-1) (j-1) rfl
   have hv:edV x y tr i j=edV y x tr j i:=by
    unfold edV;rw[e1,e2,e3];by_cases hc:chr x i=chr y j
    ·rw[if_pos hc,if_pos hc.symm]
    ·rw[if_neg hc,if_neg (fun e=>hc e.symm)];omega
   have hs:xN x y tr (i+1) (j+1)=xN y x tr (j+1) (i+1):=by
    unfold xN;rw[bM];simp only[k_Bool_and_eq_true,decide_eq_true_eq,oC];have e5:i+1-2=i-1:=by omega
    have e6:j+1-2=j-1:=by omega
    rw[e5,e6];constructor
    ·rintro⟨⟨⟨⟨a,b⟩,c⟩,d⟩,e⟩;exact⟨⟨⟨⟨a,c⟩,b⟩,e.symm⟩,d.symm⟩
    ·rintro⟨⟨⟨⟨a,b⟩,c⟩,d⟩,e⟩;exact⟨⟨⟨⟨a,c⟩,b⟩,e.symm⟩,d.symm⟩
   rw[FD,FD,hv,hs,e4]
def aoQ (x y:Str):lU x y=lU y x:=by
 rw[abC,abC,aF6 x y false _ _ _ rfl];have:ED x y=ED y x:=by unfold ED;rw[Bool.and_comm]
 rw[this]
def TF (x y:Str):qN x y=qN y x:=by
 have h1:∀a b:Str,oI a b=oI b a:=fun a b=>by unfold oI;rw[aoQ,Int.max_comm]
 unfold qN;rw[h1];by_cases h:normal x=[]\/normal y=[]
 ·rw[if_pos h,if_pos h.symm]
 ·rw[if_neg h,if_neg (fun e=>h e.symm)]
def F6:∀(a b:List Str),mcount a b=mcount b a
 |[],[]=>rfl
 |[],_::_=>by simp[mcount]
 |_::_,[]=>by simp[mcount]
 |a::x,b::y=>by
  rw[mcount,mcount];rcases H9 a b with h|rfl|h
  ·rw[if_pos h,if_neg (by rw[ET h];simp),if_pos h,F6 x (b::y)]
  ·rw[if_neg (by rw[kI];simp),if_neg (by rw[kI];simp),if_neg (by rw[kI];simp),if_neg (by rw[kI];simp),F6 x y]
  ·rw[if_neg (by rw[ET h];simp),if_pos h,if_pos h,F6 (a::x) y]
termination_by a b=>a.length+b.length
def VT (a b:List Str):uM a b=uM b a:=by
 have h1:CX a b=CX b a:=by
  rw[XC,XC,F6];have:xO a b=xO b a:=by unfold xO;rw[Bool.and_comm]
  rw[this,Int.add_comm (a.length:Int)]
 unfold uM;rw[h1];by_cases h:a=[]\/b=[]
 ·rw[if_pos h,if_pos h.symm]
 ·rw[if_neg h,if_neg (fun e=>h e.symm)]
def S9:∀(a b:Str),shared a b=shared b a
 |[],[]=>rfl
 |[],_::_=>rfl
 |_::_,[]=>rfl
 |a::x,b::y=>by
  rw[shared,shared,S9 x y];by_cases h:a=b
  ·rw[if_pos h,if_pos h.symm]
  ·rw[if_neg h,if_neg (fun e=>h e.symm)]
def auF (x y:Str):iR x y=iR y x:=by
 unfold iR IB;rw[S9 (digits y).reverse];generalize shared (digits x).reverse (digits y).reverse=n;generalize(digits x).length=a;generalize(digits y).length=b;repeat(first|rfl|omega|split)
def az6 (x y:Str):uO x y=uO y x:=by
 have h1:∀a b:Int,nK a b 10=nK b a 10:=fun a b=>by
  unfold nK;rw[Int.max_comm,Int.min_comm];have e:(inR b 0 9999=true/\inR a 0 9999=true/\inR 10 1 9999=true)↔(inR a 0 9999=true/\inR b 0 9999=true/\inR 10 1 9999=true):=⟨fun h=>⟨h.2.1,h.1,h.2.2⟩,fun h=>⟨h.2.1,h.1,h.2.2⟩⟩;simp only[e]
 unfold uO;rw[h1];by_cases h:0<jD x/\0<jD y
 ·rw[if_pos h,if_pos h.symm]
 ·rw[if_neg h,if_neg (fun e=>h e.symm)]
def as1 (a b:Rec):pF a b=pF b a:=by
 unfold pF;rw[TF (fld a 0),VT (tokens (fld a 0)),VT (mW (fld a 0)),TF (fld a 1),az6,auF]
end Go.Pl
end
section
namespace Go
def gJ:= @List.pairwise_append
end Go
end
section
namespace Go.Pl
open Go.Dv
def leS (x y:Str):decide (x<=y)= !ltL y x:=by
 unfold ltL;rw[Go.Proofs.bytesLess_eq];by_cases h:y<x
 ·have h2:¬x<=y:=by rw[←List.not_lt];simpa using h
  simp[h,h2]
 ·have h2:x<=y:=by rw[←List.not_lt];exact h
  simp[h,h2]
def afX {L:List Str}(hs:∀i j (hi:i<j) (hj:j<L.length),ltL (L[j]'hj) (L[i]'(by omega))=false):∀m≤L.length,Asc (Lib.compactUpTo L.toArray m)/\∀z,z∈Lib.compactUpTo L.toArray m↔z∈L.take m
 |0,_=>by simp[Lib.compactUpTo]
 |m+1,h=>by
  obtain⟨h1,h2⟩:=afX hs m (by omega);have hg:∀i (hi:i<L.length),L.toArray[i]! =L[i]:=fun i hi=>by simp[hi]
  have hx:L[m]?=some L[m]:=aB (by omega);rw[Lib.compactUpTo_succ,dE hx];by_cases hk:Lib.keeps L.toArray m=true
  ·rw[if_pos hk,hg m (by omega)];refine⟨gJ.2 ⟨h1,by simp,fun z hz y hy=> ?_⟩,fun z=>by rw[k_List_mem_append,h2,k_List_mem_append]⟩;obtain rfl:y=L[m]:=by simpa using hy
   have hz2:=(h2 z).1 hz;obtain⟨j,hj⟩:=dF hz2;have hjm:j<m:=by have:=dH hj;simp at this;omega
   rw[bD,if_pos hjm,aB (by omega)]at hj;obtain rfl:=k_Option_some_inj hj;simp only[Lib.keeps,decide_eq_true_eq]at hk
   have hne:L[m-1]≠L[m]:=by
    rcases hk with hk|hk
    ·omega
    ·rw[hg m (by omega),hg (m-1) (by omega)]at hk;exact fun e=>hk e.symm
   have hlast:ltL L[m-1] L[m]=true:=by
    rcases H9 L[m-1] L[m]with h3|h3|h3
    ·exact h3
    ·exact absurd h3 hne
    ·rw[hs (m-1) m (by omega) (by omega)]at h3;cases h3
   by_cases hj1:j=m-1
   ·subst hj1;exact hlast
   ·rcases H9 L[j] L[m-1]with h3|h3|h3
    ·exact BP h3 hlast
    ·rw[h3];exact hlast
    ·rw[hs j (m-1) (by omega) (by omega)]at h3;cases h3
  ·rw[if_neg hk,dW];refine⟨h1,fun z=> ?_⟩;rw[h2,k_List_mem_append];simp only[Lib.keeps,decide_eq_true_eq,not_or,Decidable.not_not]at hk;rw[hg m (by omega),hg (m-1) (by omega)]at hk;constructor
   ·exact .inl
   ·rintro(h3|h3)
    ·exact h3
    ·obtain rfl:z=L[m]:=by simpa using h3
     rw[hk.2];exact aA (i:=m-1) (by rw[bD,if_pos (by omega)];exact aB _)
def sZ (l:List Str):List Str:=l.mergeSort fun x y=>decide (x<=y)
def DF (l:List Str):List Str:=Lib.compact (sZ l)
def uN (l:List Str):(sZ l).length=l.length:=by simp[sZ]
def ac8 (l:List Str):Asc (DF l)/\∀z,z∈DF l↔z∈l:=by
 have hp:(sZ l).Pairwise fun x y=>decide (x<=y)=true:=by
  refine List.pairwise_mergeSort (fun a b c h1 h2=> ?_) (fun a b=> ?_) l
  ·rw[leS]at h1 h2|-
   simp only[gF]at h1 h2|-
   rcases H9 a b with h3|h3|h3
   ·cases hca:ltL c a with
    |false=>rfl
    |true=>rw[BP hca h3]at h2;cases h2
   ·rw[h3];exact h2
   ·rw[h3]at h1;cases h1
  ·rw[leS,leS];rcases H9 a b with h3|h3|h3
   ·rw[ET h3];rfl
   ·rw[h3,kI];rfl
   ·rw[ET h3];simp
 have hs:∀i j (hi:i<j) (hj:j<(sZ l).length),ltL ((sZ l)[j]'hj) ((sZ l)[i]'(by omega))=false:=fun i j hi hj=>by
  have:=dR.1 hp i j (by omega) hj hi;rw[leS]at this;simpa using this
 obtain⟨h1,h2⟩:=afX hs (sZ l).length (k_Nat_le_refl _);refine⟨h1,fun z=> ?_⟩;rw[DF,Lib.compact,h2,bS,sZ,List.mem_mergeSort]
variable {l:List Str}
def ak4 (h:Asc l):sZ l=l:=by
 refine List.mergeSort_of_pairwise (h.imp fun{a b} hab=> ?_);rw[leS,ET hab];rfl
def ah9 {r:List Str}(hr:Asc r)(h:∀z,z∈r↔z∈l):DF l=r:=(ac8 l).1.unique hr fun z=>by rw[(ac8 l).2,h]
def TA (l:List Str):(DF l).length<=l.length:=by
 have h:∀m≤(sZ l).length,(Lib.compactUpTo (sZ l).toArray m).length<=m:=by
  intro m hm
  induction m with
  |zero=>simp[Lib.compactUpTo]
  |succ m ih=>
   rw[Lib.compactUpTo_succ,aR];have:=ih (by omega);split<;>simp<;>omega
 exact k_Nat_le_trans (h (sZ l).length (k_Nat_le_refl _)) (Nat.le_of_eq (uN l))
def VW (s:Str):DF (PG (normal s))=tokens s:=ah9 (X0 s).1 fun z=>by rw[(X0 s).2,PG,bQ,decide_eq_true_eq]
def apN (l:List Str):List Str:=(l.map jK).filter fun x=>decide (x≠[])
def apO (s:Str):DF (apN (tokens s))=mW s:=ah9 (VV s).1 fun z=>by
 rw[(VV s).2,apN,bQ,dG,decide_eq_true_eq];constructor
 ·rintro⟨t,h1,h2,rfl⟩;exact⟨⟨t,h1,rfl⟩,h2⟩
 ·rintro⟨⟨t,h1,rfl⟩,h2⟩;exact⟨t,h1,h2,rfl⟩
def XV:∀(a b:Str),shared a b=b.length↔b.isPrefixOf a=true
 |[],[]=>by simp[shared]
 |[],b::y=>by simp[shared,List.isPrefixOf]
 |a::x,[]=>by simp[shared,List.isPrefixOf]
 |a::x,b::y=>by
  have:=XV x y;rw[shared,List.isPrefixOf];by_cases h:a=b
  ·subst h;simp[this]
  ·have h2:(b==a)=false:=by simp;exact fun e=>h e.symm
   rw[if_neg h,h2];simp
def ak2:∀(a b:Str),(shared a b=a.length/\shared a b=b.length)↔a=b
 |[],[]=>by simp[shared]
 |[],b::y=>by simp[shared]
 |a::x,[]=>by simp[shared]
 |a::x,b::y=>by
  have:=ak2 x y;rw[shared];by_cases h:a=b
  ·subst h;simp[this]
  ·rw[if_neg h];simp[h]
def auE (p q:Str):IB p q=if p.length<4\/q.length<4\/shared p.reverse q.reverse<4 then 0 else if p=q then 1000 else if shared p.reverse q.reverse>=7\/q.isSuffixOf p=true\/p.isSuffixOf q=true then 800 else 400:=by
 have h1:=ak2 p.reverse q.reverse;have h2:=XV p.reverse q.reverse;have h3:=XV q.reverse p.reverse;rw[S9 q.reverse]at h3;simp only[List.length_reverse,List.reverse_inj]at h1 h2 h3;unfold IB List.isSuffixOf;simp only[←h2,←h3,h1];have e:(shared p.reverse q.reverse>=7\/shared p.reverse q.reverse=p.length\/shared p.reverse q.reverse=q.length)↔(shared p.reverse q.reverse>=7\/shared p.reverse q.reverse=q.length\/shared p.reverse q.reverse=p.length):=by omega
 simp only[e]
def acI (E:Int->Int->Prop)(v:Ver):Int->Int->Prop:=fun x y=>E x y\/(E x v.a/\E y v.b)\/(E x v.b/\E y v.a)
def rJ (m n:Int)(z:Int):Int:=if z=max m n then min m n else z
def wJ (o:L1)(v:Ver):L1:=if v.same then o.map (rJ (at1 o v.a.toNat) (at1 o v.b.toNat))else o
def C8:L1:=(List.range 400).map fun(i:Nat)=>(i:Int)
def kJ (l:List Ver):L1:=l.foldl wJ C8
def inT (x:Int):Prop:=0<=x/\x<400
structure QP (E:Int->Int->Prop) (o:L1):Prop where
 len:o.length=400
 rng:∀i<400,0<=at1 o i/\at1 o i<400
 eq:∀x y,inT x->inT y->(at1 o x.toNat=at1 o y.toNat↔E x y)
variable {i:Nat}
def afD {o:L1}{f:Int->Int}(h:i<o.length):at1 (o.map f) i=f (at1 o i):=by
 have:=aY h;simp only[at1,aC,aS];rw[aB h];rfl
def QP.step {E:Int->Int->Prop}{o:L1}(h:QP E o){v:Ver}(ha:inT v.a)(hb:inT v.b)(hs:v.same=true):QP (acI E v) (wJ o v):=by
 have hst:wJ o v=o.map (rJ (at1 o v.a.toNat) (at1 o v.b.toNat)):=if_pos hs;have r1:=h.rng v.a.toNat (by unfold inT at ha;omega);have r2:=h.rng v.b.toNat (by unfold inT at hb;omega);rw[hst];refine⟨by rw[aQ];exact h.len,fun i hi=> ?_,fun x y hx hy=> ?_⟩
 ·rw[afD (by rw[h.len];exact hi)];have:=h.rng i hi;unfold rJ;split<;>omega
 ·unfold acI;rw[afD (by rw[h.len];unfold inT at hx;omega),afD (by rw[h.len];unfold inT at hy;omega),←h.eq x y hx hy,←h.eq x v.a hx ha,←h.eq y v.b hy hb,←h.eq x v.b hx hb,←h.eq y v.a hy ha];generalize at1 o x.toNat=X;generalize at1 o y.toNat=Y;generalize at1 o v.a.toNat=A;generalize at1 o v.b.toNat=B;unfold rJ;split<;>split<;>omega
def QP.fold:∀(l:List Ver) {E:Int->Int->Prop}{o:L1},QP E o->(∀v∈l,inT v.a/\inT v.b)->QP ((l.filter fun v=>v.same).foldl acI E) (l.foldl wJ o)
 |[],_,_,h,_=>h
 |v::l,E,o,h,hv=>by
  have h1:=hv v (by simp);have h2:=fun w hw=>hv w (bC v hw);rw[k_List_foldl_cons,List.filter_cons];cases hs:v.same with
  |true=>rw[if_pos rfl,k_List_foldl_cons];exact QP.fold l (h.step h1.1 h1.2 hs) h2
  |false=>
   rw[if_neg (by simp)];have:wJ o v=o:=if_neg (by simp[hs]);rw[this];exact QP.fold l h h2
def aCT:QP (fun x y=>x=y) C8:=by
 have h0:∀i<400,at1 C8 i=i:=fun i hi=>by simp[at1,C8,aC,hi]
 refine⟨by simp[C8],fun i hi=>by rw[h0 i hi];omega,fun x y hx hy=> ?_⟩;unfold inT at hx hy;rw[h0 _ (by omega),h0 _ (by omega)];omega
def aG6 {l:List Ver}(hv:∀v∈l,inT v.a/\inT v.b):QP ((wK l).foldl acI fun x y=>x=y) (kJ l):=QP.fold l aCT hv
abbrev Dj (g:L2):Prop:=g.Pairwise fun r r'=>∀u∈r,u∉r'
def aEP (g:L2)(x y:Int):Prop:=∃r∈g,x∈r/\y∈r
def eqG (g:L2)(x y:Int):Prop:=x=y\/aEP g x y
variable {x:Int}{r:L1}
def amF :grp x r=true↔x∈r:=by simp[grp]
variable {g:L2}
def xV (h:0<=eZ g x):g[(eZ g x).toNat]?=some (gat g (eZ g x).toNat)/\x∈gat g (eZ g x).toNat:=by
 unfold eZ ix at h|-
 cases hf:g.findIdx? (grp x)with
 |none=>rw[hf]at h;simp at h
 |some i=>
  obtain⟨h1,h2,_⟩:=fF.1 hf;simp only[iJ];have h3:g[i]?=some g[i]:=aB h1;rw[CU h3];exact⟨h3,amF.1 h2⟩
def XA (h:¬0<=eZ g x)(hr:r∈g):x∉r:=fun hx=>h (jC.2 (cZ.2 ⟨r,hr,amF.2 hx⟩))
variable {r':L1}{u:Int}
def Dj.uniq (h:Dj g){j:Nat}(hi:g[i]?=some r)(hj:g[j]?=some r')(hu:u∈r)(hu':u∈r'):i=j:=by
 have l1:=dH hi;have l2:=dH hj;rw[aB l1]at hi;rw[aB l2]at hj;obtain rfl:=k_Option_some_inj hi;obtain rfl:=k_Option_some_inj hj;have hp:=dR.1 h;rcases pG i j with h1|h1|h1
 ·exact absurd hu' (hp i j l1 l2 h1 u hu)
 ·exact h1
 ·exact absurd hu (hp j i l2 l1 h1 u hu')
def Dj.one (h:Dj g)(hr:r∈g)(hr':r'∈g)(hu:u∈r)(hu':u∈r'):r=r':=by
 obtain⟨i,hi⟩:=dF hr;obtain⟨j,hj⟩:=dF hr';obtain rfl:=h.uniq hi hj hu hu';rw[hi]at hj;exact k_Option_some_inj hj
def apC (h:Dj g)(hi:g[i]?=some r)(hx:x∈r):eZ g x=i:=by
 have h0:0<=eZ g x:=jC.2 (cZ.2 ⟨r,aA hi,amF.2 hx⟩);obtain⟨h1,h2⟩:=xV h0;have:=h.uniq h1 hi h2 hx;omega
variable {y:Int}
def same_iff (h:Dj g):(0<=eZ g x/\eZ g x=eZ g y)↔aEP g x y:=by
 constructor
 ·rintro⟨h1,h2⟩;obtain⟨a1,a2⟩:=xV h1;obtain⟨b1,b2⟩:=xV (h2▸h1);rw[h2]at a1 a2;exact⟨_,aA b1,a2,b2⟩
 ·rintro⟨r,hr,hx,hy⟩;obtain⟨i,hi⟩:=dF hr;rw[apC h hi hx,apC h hi hy];omega
def agA (h:eqG g x y):eqG g y x:=by
 rcases h with h|⟨r,hr,h1,h2⟩
 ·exact .inl h.symm
 ·exact .inr ⟨r,hr,h2,h1⟩
def EE (hd:Dj g){z:Int}(h:eqG g x y)(h':eqG g y z):eqG g x z:=by
 rcases h with rfl|⟨r,hr,h1,h2⟩
 ·exact h'
 ·rcases h' with rfl|⟨r',hr',h3,h4⟩
  ·exact .inr ⟨r,hr,h1,h2⟩
  ·obtain rfl:=hd.one hr hr' h2 h3;exact .inr ⟨r,hr,h1,h4⟩
def acQ (g:L2)(a b:Int):AC g a b=((List.range g.length).filter fun(i:Nat)=>decide ((i:Int)≠a/\(i:Int)≠b)).map (gat g):=by
 have h:∀n,loopN n [] (fun(i:Nat) o=>if(i:Int)≠a/\(i:Int)≠b then o++[gat g i]else o)=((List.range n).filter fun(i:Nat)=>decide ((i:Int)≠a/\(i:Int)≠b)).map (gat g):=by
  intro n
  induction n with
  |zero=>rfl
  |succ n ih=>
   rw[aM,ih,dN,eD,fH];by_cases hc:(n:Int)≠a/\(n:Int)≠b
   ·rw[if_pos hc];simp[hc]
   ·rw[if_neg hc];simp only[not_and,Decidable.not_not]at hc;simp;exact hc
 exact h g.length
def ahH {a b:Int}:r∈AC g a b↔∃i:Nat,g[i]?=some r/\(i:Int)≠a/\(i:Int)≠b:=by
 rw[acQ,dG];constructor
 ·rintro⟨i,hi,rfl⟩;rw[bQ,bB,decide_eq_true_eq]at hi;obtain⟨c,hc⟩:=aO hi.1;exact⟨i,by rw[CU hc];exact hc,hi.2⟩
 ·rintro⟨i,hi,h⟩;exact⟨i,by rw[bQ,bB,decide_eq_true_eq];exact⟨dH hi,h⟩,CU hi⟩
def aH8 (h:Dj g)(a b:Int):Dj (AC g a b):=by
 rw[acQ];refine zO.2 ((List.pairwise_lt_range.filter _).imp_of_mem fun{i j} hi hj hlt u hu hu'=> ?_);rw[bQ,bB]at hi hj;obtain⟨c,hc⟩:=aO hi.1;obtain⟨d,hd⟩:=aO hj.1;rw[CU hc]at hu;rw[CU hd]at hu';have:=h.uniq hc hd hu hu';omega
def ahT (g:L2)(x:Int):L1:=if 0<=eZ g x then gat g (eZ g x).toNat else[x]
def SL (h:Dj g):u∈ahT g x↔eqG g u x:=by
 unfold ahT;split
 ·next h0=>
  obtain⟨h1,h2⟩:=xV h0;constructor
  ·exact fun hu=> .inr ⟨_,aA h1,hu,h2⟩
  ·rintro(rfl|⟨r,hr,hu,hx⟩)
   ·exact h2
   ·rw[←h.one hr (aA h1) hx h2];exact hu
 ·next h0=>
  constructor
  ·intro hu;exact .inl (by simpa using hu)
  ·rintro(rfl|⟨r,hr,hu,hx⟩)
   ·simp
   ·exact absurd hx (XA h0 hr)
def aCL (g:L2)(x y:Int):qA g x y=AC g (eZ g x) (eZ g y)++[if 0<=eZ g x/\eZ g x=eZ g y then ahT g x else ahT g x++ahT g y]:=by
 unfold qA ahT;split
 ·next h=>rw[if_pos h.1]
 ·rfl
def aCM (h:Dj g)(v:Ver):Dj (qA g v.a v.b)/\∀u w,eqG (qA g v.a v.b) u w↔acI (eqG g) v u w:=by
 obtain⟨M,hM⟩:∃M,M=if 0<=eZ g v.a/\eZ g v.a=eZ g v.b then ahT g v.a else ahT g v.a++ahT g v.b:=⟨_,rfl⟩
 have hj:=aCL g v.a v.b;rw[←hM]at hj
 have hin:∀u,u∈M↔eqG g u v.a\/eqG g u v.b:=by
  intro u;rw[hM];split
  ·next hs=>
   rw[SL h];exact⟨.inl,fun hh=>hh.elim id fun h2=>EE h h2 (agA (.inr ((same_iff h).1 hs)))⟩
  ·rw[k_List_mem_append,SL h,SL h]
 have hrest:∀(i:Nat) (r:L1),g[i]?=some r->(((i:Int)≠eZ g v.a/\(i:Int)≠eZ g v.b)↔∀u∈r,u∉M)\/r=[]:=by
  intro i r hi;by_cases hr:r=[]
  ·exact .inr hr
  ·left;constructor
   ·rintro⟨h1,h2⟩ u hu hm;rcases(hin u).1 hm with h3|h3
    ·have:=(SL h).2 h3;unfold ahT at this;split at this
     ·next h0=>obtain⟨k1,_⟩:=xV h0;have:=h.uniq hi k1 hu this;omega
     ·next h0=>obtain rfl:u=v.a:=by simpa using this
               exact XA h0 (aA hi) hu
    ·have:=(SL h).2 h3;unfold ahT at this;split at this
     ·next h0=>obtain⟨k1,_⟩:=xV h0;have:=h.uniq hi k1 hu this;omega
     ·next h0=>obtain rfl:u=v.b:=by simpa using this
               exact XA h0 (aA hi) hu
   ·intro hall;constructor
    ·intro e;have h0:0<=eZ g v.a:=by omega
     obtain⟨k1,k2⟩:=xV h0;rw[←e,iJ,hi]at k1;rw[←e,iJ,←Option.some.inj k1]at k2;exact hall _ k2 ((hin _).2 (.inl (.inl rfl)))
    ·intro e;have h0:0<=eZ g v.b:=by omega
     obtain⟨k1,k2⟩:=xV h0;rw[←e,iJ,hi]at k1;rw[←e,iJ,←Option.some.inj k1]at k2;exact hall _ k2 ((hin _).2 (.inr (.inl rfl)))
 have hdis:∀r∈AC g (eZ g v.a) (eZ g v.b),∀u∈r,u∉M:=by
  intro r hr u hu;obtain⟨i,hi,h1⟩:=ahH.1 hr;rcases hrest i r hi with h2|rfl
  ·exact h2.1 h1 u hu
  ·simp at hu
 refine⟨?_,fun u w=> ?_⟩
 ·rw[hj];refine gJ.2 ⟨aH8 h _ _,by simp,fun r hr m hm=> ?_⟩;obtain rfl:m=M:=by simpa using hm
  exact hdis r hr
 ·constructor
  ·rintro(rfl|⟨r,hr,hu,hw⟩)
   ·exact .inl (.inl rfl)
   ·rw[hj,k_List_mem_append]at hr;rcases hr with hr|hr
    ·obtain⟨i,hi,_⟩:=ahH.1 hr;exact .inl (.inr ⟨r,aA hi,hu,hw⟩)
    ·obtain rfl:r=M:=by simpa using hr
     rcases(hin u).1 hu with h1|h1<;>rcases(hin w).1 hw with h2|h2
     ·exact .inl (EE h h1 (agA h2))
     ·exact .inr (.inl ⟨h1,h2⟩)
     ·exact .inr (.inr ⟨h1,h2⟩)
     ·exact .inl (EE h h1 (agA h2))
  ·have hm:∀{u w},u∈M->w∈M->eqG (qA g v.a v.b) u w:=fun hu hw=> .inr ⟨M,by rw[hj];simp,hu,hw⟩;rintro(h1|⟨h1,h2⟩|⟨h1,h2⟩)
   ·rcases h1 with rfl|⟨r,hr,hu,hw⟩
    ·exact .inl rfl
    ·by_cases hx:u∈M
     ·refine hm hx ((hin w).2 ?_);have hwu:eqG g w u:= .inr ⟨r,hr,hw,hu⟩;exact((hin u).1 hx).imp (EE h hwu) (EE h hwu)
     ·obtain⟨i,hi⟩:=dF hr;rcases hrest i r hi with h2|rfl
      ·refine .inr ⟨r,?_,hu,hw⟩;rw[hj,k_List_mem_append];refine .inl (ahH.2 ⟨i,hi,h2.2 fun z hz hzM=>hx ((hin u).2 ?_)⟩);have huz:eqG g u z:= .inr ⟨r,hr,hu,hz⟩;exact((hin z).1 hzM).imp (EE h huz) (EE h huz)
      ·simp at hu
   ·exact hm ((hin u).2 (.inl h1)) ((hin w).2 (.inr h2))
   ·exact hm ((hin u).2 (.inr h1)) ((hin w).2 (.inl h2))
def AY (l:List Ver):L2:=l.foldl (fun g v=>qA g v.a v.b) []
def Z5:∀(l:List Ver) {g:L2}{E:Int->Int->Prop},Dj g->(∀u w,eqG g u w↔E u w)->Dj (l.foldl (fun g v=>qA g v.a v.b) g)/\∀u w,eqG (l.foldl (fun g v=>qA g v.a v.b) g) u w↔l.foldl acI E u w
 |[],_,_,h,he=>⟨h,he⟩
 |v::l,g,E,h,he=>by
  obtain⟨h1,h2⟩:=aCM h v;refine Z5 l h1 fun u w=> ?_;rw[h2];unfold acI;simp only[he]
def ag8 (l:List Ver):Dj (AY l)/\∀u w,eqG (AY l) u w↔l.foldl acI (fun x y=>x=y) u w:=Z5 l (by simp) fun u w=>by simp[eqG,aEP]
def aoC {l ms:List Ver}(hv:∀v∈l,inT v.a/\inT v.b)(hm:wK l=ms)(hx:inT x)(hy:inT y)(hne:x≠y):at1 (kJ l) x.toNat=at1 (kJ l) y.toNat↔(0<=eZ (AY ms) x/\eZ (AY ms) x=eZ (AY ms) y):=by
 rw[(aG6 hv).eq x y hx hy,hm,←(ag8 ms).2,same_iff (ag8 ms).1];exact⟨fun h=>h.resolve_left hne,.inr⟩
end Go.Pl
end
section
namespace Go
def nJ:= @List.filter_eq_self
def nO:= @List.getElem_set
def pV:= @List.getLast?_eq_some_iff
def k_List_length_eq_zero_iff:= @List.length_eq_zero_iff
def oM:= @List.length_set
def lG:= @List.singleton_append
end Go
end
section
namespace Go.Pl
open Go.Dv
variable {x y:Int}
def TP (h:x<y):cmpI x y= -1:=if_pos h
def TN (h:y<x):cmpI x y=1:=by unfold cmpI;rw[if_neg (by omega),if_pos h]
def yI (x:Int):cmpI x x=0:=by unfold cmpI;rw[if_neg (by omega),if_neg (by omega)]
def TR (u w:Ver):gP u w<=0↔(u.a<w.a\/u.a=w.a/\(u.b<w.b\/u.b=w.b/\(u.time<w.time\/u.time=w.time/\(u.same=true->w.same=true)))):=by
 unfold gP;rcases gW u.a w.a with h1|h1|h1
 ·rw[TP h1];simp[h1]
 ·rw[h1,yI];rcases gW u.b w.b with h2|h2|h2
  ·rw[TP h2];simp[h2]
  ·rw[h2,yI];rcases gW u.time w.time with h3|h3|h3
   ·rw[TP h3];simp[h3]
   ·rw[h3,yI];cases u.same<;>cases w.same<;>simp
   ·rw[TN h3];simp;omega
  ·rw[TN h2];simp;omega
 ·rw[TN h1];simp;omega
def QX (u w:Ver):gP u w<0↔¬gP w u<=0:=by
 rw[TR];have h:=TR u w
 have h0:gP u w=0->u=w:=by
  unfold gP;rcases gW u.a w.a with h1|h1|h1
  ·rw[TP h1];simp
  ·rw[h1,yI];rcases gW u.b w.b with h2|h2|h2
   ·rw[TP h2];simp
   ·rw[h2,yI];rcases gW u.time w.time with h3|h3|h3
    ·rw[TP h3];simp
    ·rw[h3,yI];intro h4
     have h5:u.same=w.same:=by
      cases hu:u.same<;>cases hw:w.same<;>simp[hu,hw]at h4|-
     cases u;cases w;simp_all
    ·rw[TN h3];simp
   ·rw[TN h2];simp
  ·rw[TN h1];simp
 constructor
 ·intro hlt hle;have h1:=h.1 (by omega)
  have:u.same=w.same:=by
   have e1:u.a=w.a:=by omega
   have e2:u.b=w.b:=by omega
   have e3:u.time=w.time:=by omega
   have a1:u.same=true->w.same=true:=by
    rcases h1 with h1|⟨_,h1|⟨_,h1|⟨_,h1⟩⟩⟩
    ·omega
    ·omega
    ·omega
    ·exact h1
   have a2:w.same=true->u.same=true:=by
    rcases hle with h1|⟨_,h1|⟨_,h1|⟨_,h1⟩⟩⟩
    ·omega
    ·omega
    ·omega
    ·exact h1
   cases hu:u.same<;>cases hw:w.same<;>simp_all
  have e1:u.a=w.a:=by omega
  have e2:u.b=w.b:=by omega
  have e3:u.time=w.time:=by omega
  have:gP u w=0:=by
   unfold gP;rw[e1,e2,e3,this,yI,yI,yI];simp
  omega
 ·intro hn
  have hle:gP u w<=0:=by
   rw[h];rcases gW u.a w.a with h1|h1|h1
   ·exact .inl h1
   ·refine .inr ⟨h1,?_⟩;rcases gW u.b w.b with h2|h2|h2
    ·exact .inl h2
    ·refine .inr ⟨h2,?_⟩;rcases gW u.time w.time with h3|h3|h3
     ·exact .inl h3
     ·refine .inr ⟨h3,fun hu=> ?_⟩;cases hw:w.same with
      |true=>rfl
      |false=>exact absurd (.inr ⟨h1.symm,.inr ⟨h2.symm,.inr ⟨h3.symm,fun e=>by rw[hw]at e;cases e⟩⟩⟩) hn
     ·exact absurd (.inr ⟨h1.symm,.inr ⟨h2.symm,.inl h3⟩⟩) hn
    ·exact absurd (.inr ⟨h1.symm,.inl h2⟩) hn
   ·exact absurd (.inl h1) hn
  have:gP u w≠0:=by
   intro e;have:=h0 e;subst this;exact hn (.inr ⟨rfl,.inr ⟨rfl,.inr ⟨rfl,id⟩⟩⟩)
  omega
variable {u v:Ver}
def afV {w:Ver}(h1:gP u v<=0)(h2:gP v w<=0):gP u w<=0:=by
 rw[TR]at*
 rcases h1 with h1|⟨h1,h1'|⟨h1',h1''|⟨h1'',h1s⟩⟩⟩<;>rcases h2 with h2|⟨h2,h2'|⟨h2',h2''|⟨h2'',h2s⟩⟩⟩
 all_goals first
  |(left;omega)
  |(right;refine⟨by omega,?_⟩;left;omega)
  |(right;refine⟨by omega,?_⟩;right;refine⟨by omega,?_⟩;left;omega)
  |(right;refine⟨by omega,?_⟩;right;refine⟨by omega,?_⟩;right;exact⟨by omega,fun e=>h2s (h1s e)⟩)
def ajR {w:Ver}(h1:gP u w<=0)(h2:gP w u<=0):u=w:=by
 have h3:=(TR u w).1 h1;have h4:=(TR w u).1 h2;have e1:u.a=w.a:=by omega
 have e2:u.b=w.b:=by omega
 have e3:u.time=w.time:=by omega
 have e4:u.same=w.same:=by
  have a1:u.same=true->w.same=true:=by
   rcases h3 with h1|⟨_,h1|⟨_,h1|⟨_,h1⟩⟩⟩<;>first|omega|exact h1
  have a2:w.same=true->u.same=true:=by
   rcases h4 with h1|⟨_,h1|⟨_,h1|⟨_,h1⟩⟩⟩<;>first|omega|exact h1
  cases hu:u.same<;>cases hw:w.same<;>simp_all
 cases u;cases w;simp_all
variable {α:Type}
def amI (p:α->Bool)(l:List α)(v:α):(gN p l v).Perm (v::l):=by
 unfold gN;rw[bP,lG];refine List.perm_middle.trans ?_;rw[dL]
def CV (p:α->α->Bool):∀(l t:List α),(l.foldl (fun out v=>gN (p v) out v) t).Perm (t++l)
 |[],t=>by simp
 |x::l,t=>by
  rw[k_List_foldl_cons];refine(CV p l _).trans ?_;refine((amI (p x) t x).append_right l).trans ?_;rw[fZ];exact List.perm_middle.symm
def II (l:List Ver):(iH l).Perm l:=by have:=CV uG l [];rwa [iV]at this
def KL (l:List Ver):(uU l).Perm l:=by have:=CV EX l [];rwa [iV]at this
abbrev NT (l:List Ver):Prop:=l.Pairwise fun a b=>gP a b<=0
def afF (p:α->Bool)(l:List α):(∀x∈l.drop (l.length-backs p l),p x=true)/\∀c,(l.take (l.length-backs p l)).getLast?=some c->p c=false:=by
 have hb:=anR p l
 have h1:l.drop (l.length-backs p l)=(l.reverse.takeWhile p).reverse:=by
  have:l.reverse.take (backs p l)=l.reverse.takeWhile p:=by
   have hp:=oN (p:=p) (l:=l.reverse);unfold backs;exact(List.prefix_iff_eq_take.1 hp).symm
  rw[←this,List.reverse_take];simp
 have h2:l.take (l.length-backs p l)=(l.reverse.dropWhile p).reverse:=by
  have h3:l=(l.reverse.dropWhile p).reverse++(l.reverse.takeWhile p).reverse:=by
   rw[←List.reverse_append,List.takeWhile_append_dropWhile,List.reverse_reverse]
  have h4:=dL (l.length-backs p l) l;rw[h1]at h4;exact qY (h4.trans h3)
 refine⟨fun x hx=> ?_,fun c hc=> ?_⟩
 ·rw[h1,List.mem_reverse]at hx;exact aH.1 List.all_takeWhile x hx
 ·rw[h2,List.getLast?_reverse]at hc;have:=List.head?_dropWhile_not p l.reverse;rw[hc]at this;simpa using this
variable {l:List Ver}
def ag6 (h:NT l)(v:Ver):NT (gN (uG v) l v):=by
 obtain⟨h1,h2⟩:=afF (uG v) l;unfold gN;generalize l.length-backs (uG v) l=k at h1 h2|-
 have hl:∀x∈l.take k,gP x v<=0:=by
  intro x hx
  obtain⟨c,hc⟩:∃c,(l.take k).getLast?=some c:=by
   cases hg:(l.take k).getLast? with
   |some c=>exact⟨c,rfl⟩
   |none=>rw[List.getLast?_eq_none_iff]at hg;rw[hg]at hx;cases hx
  have h3:=h2 c hc;simp only[uG,decide_eq_false_iff_not]at h3;obtain⟨t,ht⟩:=pV.1 hc;have hs:NT (l.take k):=h.sublist (tF _ _);rw[ht]at hx hs;rcases k_List_mem_append.1 hx with hx|hx
  ·exact afV ((gJ.1 hs).2.2 x hx c (by simp)) (by omega)
  ·obtain rfl:x=c:=by simpa using hx
   omega
 have hr:∀x∈l.drop k,gP v x<=0:=by
  intro x hx;have h3:=h1 x hx;simp only[uG,decide_eq_true_eq]at h3;have:=(QX v x).2 (by omega);omega
 rw[bP,lG];have hs:=h;rw[←List.take_append_drop k l]at hs;obtain⟨a1,a2,a3⟩:=gJ.1 hs;refine gJ.2 ⟨a1,dY.2 ⟨hr,a2⟩,fun x hx y hy=> ?_⟩;rcases aK.1 hy with rfl|hy
 ·exact hl x hx
 ·exact a3 x hx y hy
def J9 (l:List Ver):NT (iH l):=by
 have key:∀(l t:List Ver),NT t->NT (l.foldl (fun out v=>gN (uG v) out v) t):=by
  intro l
  induction l with
  |nil=>exact fun t h=>h
  |cons v l ih=>exact fun t h=>ih _ (ag6 h v)
 exact key l [] List.Pairwise.nil
def auQ {a b:List Ver}(h:a.Perm b):iH a=iH b:=
 List.Perm.eq_of_pairwise (le:=fun u w=>gP u w<=0) (fun u w _ _=>ajR) (J9 a) (J9 b) ((II a).trans (h.trans (II b).symm))
def asB {R:α->α->Bool}(ht:∀a b c,R a b=true->R b c=true->R a c=true):∀{l:List α},adj R l=true->l.Pairwise fun a b=>R a b=true
 |[],_=>List.Pairwise.nil
 |[a],_=>by simp
 |a::b::l,h=>by
  simp only[adj,k_Bool_and_eq_true]at h;have ih:=asB ht h.2;refine dY.2 ⟨fun c hc=> ?_,ih⟩;rcases aK.1 hc with rfl|hc
  ·exact h.1
  ·exact ht _ _ _ h.1 ((dY.1 ih).1 c hc)
def aKS {R:α->α->Bool}{l:List α}(h:l.Pairwise fun a b=>R a b=true):adj R l=true:=by
 rw[aeI];intro i a b ha hb;have l1:=dH ha;have l2:=dH hb;rw[aB l1]at ha;rw[aB l2]at hb;rw[←Option.some.inj ha,←Option.some.inj hb];exact dR.1 h i (i+1) l1 l2 (by omega)
def NY (h:lI l=true):(∀v∈l,fQ v=true)/\(l.Pairwise fun a b=>gP a b<0)/\l.length<=8:=by
 simp only[lI,k_Bool_and_eq_true,decide_eq_true_eq,aH]at h;refine⟨h.1.1,?_,h.2⟩
 have:=asB (R:=fun a b=>decide (gP a b<0)) (fun a b c h1 h2=>by
  simp only[decide_eq_true_eq]at h1 h2|-
  rw[QX]at h1 h2|-
  intro h3;have h4:gP b c<=0:=by have:=(QX b c).2 h2;omega
  exact h1 (afV h4 h3)) h.1.2
 exact this.imp fun h=>by simpa using h
def sM (h:fQ v=true):inT v.a/\inT v.b/\v.a<v.b:=by
 simp only[fQ,k_Bool_and_eq_true,decide_eq_true_eq]at h;unfold inT;omega
def asE (h1:∀v∈l,fQ v=true)(h2:NT l)(h3:l.Nodup)(h4:l.length<=8):lI l=true:=by
 simp only[lI,k_Bool_and_eq_true,decide_eq_true_eq,aH];refine⟨⟨h1,aKS ?_⟩,h4⟩;refine(h2.and h3).imp fun{u w} ⟨a,b⟩=> ?_;simp only[decide_eq_true_eq];rw[QX];exact fun hh=>b (ajR a hh)
def ltK (u w:Ver):Prop:=u.a<w.a\/u.a=w.a/\u.b<w.b
structure aK9 (l:List Ver) (i:Nat) (o:List Ver):Prop where
 sub:∀u∈o,u∈l.take i
 asc:o.Pairwise ltK
 top:∀p,o[o.length-1]?=some p->∀w∈l.take i,¬ltK p w
def aIT (h:lI l=true):∀i≤l.length,aK9 l i ((l.take i).foldl rW [])
 |0,_=>⟨by simp,by simp,by simp⟩
 |i+1,hi=>by
  have ih:=aIT h i (by omega);obtain⟨c,hc⟩:=aO (l:=l) (i:=i)
  have hle:∀w∈l.take i,¬ltK c w:=by
   intro w hw hk;obtain⟨j,hj⟩:=dF hw;have hjl:j<i:=by have:=dH hj;simp at this;omega
   rw[bD,if_pos hjl]at hj;have l1:=dH hc;have l2:=dH hj;rw[aB l1]at hc;rw[aB l2]at hj;have:=dR.1 (NY h).2.1 j i l2 l1 hjl;rw[k_Option_some_inj hc,k_Option_some_inj hj]at this;have h5:=(TR w c).1 (by omega);unfold ltK at hk;omega
  rw[dK rW [] hc];have hts:=dE hc;generalize(l.take i).foldl rW []=o at ih|-
  have hpush:(∀u∈o,ltK u c)->aK9 l (i+1) (o++[c]):=by
   intro hu;refine⟨fun u hm=> ?_,gJ.2 ⟨ih.asc,by simp,fun u hu' w hw=> ?_⟩,fun p hp w hw=> ?_⟩
   ·rw[hts,k_List_mem_append];rcases k_List_mem_append.1 hm with hm|hm
    ·exact .inl (ih.sub u hm)
    ·exact .inr hm
   ·obtain rfl:w=c:=by simpa using hw
    exact hu u hu'
   ·have:p=c:=by simpa using hp.symm
    subst this;rw[hts,k_List_mem_append]at hw;rcases hw with hw|hw
    ·exact hle w hw
    ·obtain rfl:w=p:=by simpa using hw
     unfold ltK;omega
  unfold rW;split
  ·next hn=>
   have ho:o=[]:=by
    rw[List.getElem?_eq_none_iff]at hn;exact k_List_length_eq_zero_iff.1 (by omega)
   subst ho;exact hpush (by simp)
  ·next u hu=>
   have hum:u∈o:=aA hu;have hulen:=dH hu;have huc:=hle u (ih.sub u hum);split
   ·next hne=>
    refine hpush fun x hx=> ?_;have:=ih.top u hu x (ih.sub x hx);unfold ltK at*
    omega
   ·next hne=>
    have hk:u.a=c.a/\u.b=c.b:=by omega
    split
    ·refine⟨fun x hx=> ?_,?_,fun p hp w hw=> ?_⟩
     ·rw[hts,k_List_mem_append];rcases jJ hx with hx|rfl
      ·exact .inl (ih.sub x hx)
      ·exact .inr (by simp)
     ·rw[dR];intro a b ha hb hab;rw[oM]at ha hb;have hp:=dR.1 ih.asc a b ha hb hab;rw[nO,nO];have hul:o[o.length-1]=u:=by rw[aB hulen]at hu;exact k_Option_some_inj hu
      rw[if_neg (by omega)];split
      ·next e=>
       subst e;rw[hul]at hp;unfold ltK at*
       omega
      ·exact hp
     ·rw[oM,bG (by omega)]at hp;obtain rfl:=k_Option_some_inj hp;rw[hts,k_List_mem_append]at hw;rcases hw with hw|hw
      ·exact hle w hw
      ·obtain rfl:w=c:=by simpa using hw
       unfold ltK;omega
    ·refine⟨fun x hx=> ?_,ih.asc,fun p hp w hw=> ?_⟩
     ·rw[hts,k_List_mem_append];exact .inl (ih.sub x hx)
     ·rw[hts,k_List_mem_append]at hw;rcases hw with hw|hw
      ·exact ih.top p hp w hw
      ·obtain rfl:w=c:=by simpa using hw
       rw[hu]at hp;obtain rfl:=k_Option_some_inj hp;unfold ltK;omega
def asQ (h:lI l=true):(∀v∈gY l,fQ v=true)/\(gY l).Nodup:=by
 have hi:=aIT h l.length (k_Nat_le_refl _);rw[bS]at hi;refine⟨fun v hv=>(NY h).1 v (by have:=hi.sub v hv;rwa [bS]at this),hi.asc.imp fun{u w} hk e=> ?_⟩;subst e;unfold ltK at hk;omega
def afZ (l:List Ver):(gY l).length<=l.length:=by
 have:=IM rW (fun t x=>by
  unfold rW;split
  ·simp
  ·split
   ·simp
   ·split<;>simp) l []
 simpa[gY]using this
def afR (l:List Ver):Bool:=l.any fun v=> !v.same&&decide (at1 (kJ l) v.a.toNat=at1 (kJ l) v.b.toNat)
def KA (st:List Ver×List Ver)(v:Ver):List Ver×List Ver:=if afR (st.1++[v])=true then(st.1,st.2++[v])else(st.1++[v],st.2)
def aiC (l:List Ver):List Ver×List Ver:=(uU (wK (gY l))).foldl KA (apart (gY l),[])
variable {C:List Ver}
def axG {ms:List Ver}(hC:∀v∈C,v.same=false)(hm:∀v∈ms,v.same=true)(hv:∀v∈C++ms,fQ v=true):afR (C++ms)= !(C.all (EA (AY ms))):=by
 have hs:wK (C++ms)=ms:=by
  unfold wK;rw[eD,sP.2 (fun v h=>by simp[hC v h]),nJ.2 hm];rfl
 have hin:∀v∈C++ms,inT v.a/\inT v.b:=fun v h=>⟨(sM (hv v h)).1,(sM (hv v h)).2.1⟩;unfold afR;generalize hL:C++ms=L at hs hin hv|-
 have h1:(L.any fun v=> !v.same&&decide (at1 (kJ L) v.a.toNat=at1 (kJ L) v.b.toNat))=C.any fun v=> !EA (AY ms) v:=by
  rw[bM,cZ,cZ]
  have key:∀v∈L,(decide (at1 (kJ L) v.a.toNat=at1 (kJ L) v.b.toNat)=true↔(!EA (AY ms) v)=true):=by
   intro v h;have hvv:=sM (hv v h);rw[decide_eq_true_eq,aoC hin hs hvv.1 hvv.2.1 (by omega)];simp[EA]
  constructor
  ·rintro⟨v,hm1,h2⟩;rw[k_Bool_and_eq_true]at h2;refine⟨v,?_,(key v hm1).1 h2.2⟩;rw[←hL]at hm1;rcases k_List_mem_append.1 hm1 with h3|h3
   ·exact h3
   ·rw[hm v h3]at h2;simp at h2
  ·rintro⟨v,hm1,h2⟩;have hm2:v∈L:=by rw[←hL];simp[hm1]
   exact⟨v,hm2,by rw[k_Bool_and_eq_true];exact⟨by rw[hC v hm1];rfl,(key v hm2).2 h2⟩⟩
 rw[h1,List.any_eq_not_all_not];simp
structure aMQ (cur C open':List Ver) (s:L2×List Ver×List Ver) (st:List Ver×List Ver) (ms:List Ver):Prop where
 kept:st.1=C++ms
 grp:s.1=AY ms
 same:∀v∈ms,v.same=true
 perm:(st.1++st.2++open').Perm cur
 sort:iH s.2.1=iH st.1
 ref:s.2.2=st.2
def XW {cur:List Ver}(h8:cur.length<=8)(hval:∀v∈cur,fQ v=true)(hnd:cur.Nodup)(hC:∀v∈C,v.same=false):∀(open':List Ver),(∀v∈open',v.same=true)->∀{s:L2×List Ver×List Ver}{st:List Ver×List Ver}{ms:List Ver},aMQ cur C open' s st ms->iH (open'.foldl (wL C) s).2.1=iH (open'.foldl KA st).1/\(open'.foldl (wL C) s).2.2=(open'.foldl KA st).2
 |[],_,s,st,ms,h=>⟨h.sort,h.ref⟩
 |v::rest,hsame,s,st,ms,h=>by
  rw[k_List_foldl_cons,k_List_foldl_cons];have hv:v.same=true:=hsame v (by simp)
  have hms:∀w∈ms++[v],w.same=true:=by
   intro w hw;rcases k_List_mem_append.1 hw with hw|hw
   ·exact h.same w hw
   ·obtain rfl:w=v:=by simpa using hw
    exact hv
  have hsub:∀w∈C++(ms++[v]),fQ w=true:=by
   intro w hw;refine hval w (h.perm.mem_iff.1 ?_);rw[h.kept];simp only[k_List_mem_append,aK,List.not_mem_nil,or_false]at hw|-
   rcases hw with hw|hw|hw
   ·exact .inl (.inl (.inl hw))
   ·exact .inl (.inl (.inr hw))
   ·exact .inr (.inl hw)
  have hcl:=axG hC hms hsub;have hja:AY (ms++[v])=qA s.1 v.a v.b:=by rw[h.grp,AY,kG];rfl
  rw[hja]at hcl;have hk1:st.1++[v]=C++(ms++[v]):=by rw[h.kept,bP]
  by_cases hc:C.all (EA (qA s.1 v.a v.b))=true
  ·have e1:wL C s v=(qA s.1 v.a v.b,BA (iH s.2.1) v,s.2.2):=if_pos hc;have e2:KA st v=(st.1++[v],st.2):=if_neg (by rw[hk1,hcl,hc];simp);rw[e1,e2]
   have hp:(st.1++[v]++st.2++rest).Perm cur:=by
    refine List.Perm.trans ?_ h.perm;rw[bP,bP,bP];refine List.Perm.append_left _ ?_;rw[lG];exact List.perm_middle.symm
   refine XW h8 hval hnd hC rest (fun w hw=>hsame w (by simp[hw])) ⟨hk1,hja.symm,hms,hp,?_,h.ref⟩;have hS:(iH s.2.1).Perm st.1:=by rw[h.sort];exact II _
   have hlen:=hp.length_eq;simp only[aR,k_List_length_cons,jI]at hlen
   have hnd2:(st.1++[v]).Nodup:=by
    have:=hp.nodup_iff.2 hnd;rw[bP]at this;exact(mU.1 this).1
   have hmem:∀w∈iH s.2.1,fQ w=true:=fun w hw=>hsub w (by rw[←hk1,k_List_mem_append];exact .inl (hS.mem_iff.1 hw))
   have hok:IQ (iH s.2.1) v=true:=by
    simp only[IQ,k_Bool_and_eq_true,gF,decide_eq_true_eq];refine⟨⟨⟨asE hmem (J9 _) ?_ ?_,hsub v (by simp)⟩,?_⟩,?_⟩
    ·exact hS.nodup_iff.2 (mU.1 hnd2).1
    ·rw[hS.length_eq];omega
    ·rw[gX];intro w hw;have hw2:=hS.mem_iff.1 hw;have:=(mU.1 hnd2).2.2 w hw2 v (by simp);simpa using this
    ·rw[hS.length_eq];omega
   have hadd:BA (iH s.2.1) v=(iH s.2.1).take (ae7 (iH s.2.1) v)++[v]++(iH s.2.1).drop (ae7 (iH s.2.1) v):=if_pos hok;refine auQ ?_;simp only;rw[hadd,bP,lG];refine List.perm_middle.trans ?_;rw[dL];refine(hS.cons v).trans ?_;have:=List.perm_append_comm (l₁:=[v]) (l₂:=st.1);simpa using this
  ·have e1:wL C s v=(s.1,s.2.1,s.2.2++[v]):=if_neg hc;have e2:KA st v=(st.1,st.2++[v]):=if_pos (by rw[hk1,hcl,(by simpa using hc:C.all (EA (qA s.1 v.a v.b))=false)];rfl);rw[e1,e2]
   have hp:(st.1++(st.2++[v])++rest).Perm cur:=by
    refine List.Perm.trans ?_ h.perm;simp[bP]
   exact XW h8 hval hnd hC rest (fun w hw=>hsame w (by simp[hw])) ⟨h.kept,h.grp,h.same,hp,h.sort,by rw[h.ref]⟩
def aiD (h:lI l=true):iH (aiC l).1=sQ l/\iH (aiC l).2=jY l:=by
 obtain⟨hval,hnd⟩:=asQ h
 have h8:(gY l).length<=8:=by
  have:=(NY h).2.2;have:=afZ l;omega
 have hp:(apart (gY l)++uU (wK (gY l))).Perm (gY l):=by
  refine((KL _).append_left _).trans ?_;refine List.perm_append_comm.trans ?_;exact List.filter_append_perm (fun v:Ver=>v.same) (gY l)
 have:=XW (cur:=gY l) (C:=apart (gY l)) h8 hval hnd (fun v hv=>by simpa using(bQ.1 hv).2) (uU (wK (gY l))) (fun v hv=>(bQ.1 ((KL _).mem_iff.1 hv)).2) (s:=([],apart (gY l),[])) (st:=(apart (gY l),[])) (ms:=[]) ⟨by simp,rfl,by simp,by simpa using hp,rfl,rfl⟩;unfold sQ jY LH aiC;rw[this.1,this.2];exact⟨rfl,rfl⟩
end Go.Pl
end
section
namespace Go
def rA:= @List.find?_range_eq_some
end Go
end
section
namespace Go.Pl
open Go.Dv
def J7 (f:Nat->Bool):Nat->Option Nat
 |0=>none
 |a+1=>if f a=true then some a else J7 f a
variable {a:Nat}
def XQ {f:Nat->Bool}:∀{n:Nat},J7 f n=some a↔a<n/\f a=true/\∀k,a<k->k<n->f k=false
 |0=>by simp[J7]
 |n+1=>by
  rw[J7];by_cases h:f n=true
  ·rw[if_pos h,aJ];constructor
   ·rintro rfl;exact⟨by omega,h,fun k h1 h2=>by omega⟩
   ·rintro⟨h1,h2,h3⟩;by_cases he:n=a
    ·exact he
    ·rw[h3 n (by omega) (by omega)]at h;cases h
  ·rw[if_neg h,XQ];have hf:f n=false:=by simpa using h
   constructor
   ·rintro⟨h1,h2,h3⟩;refine⟨by omega,h2,fun k hk hkn=> ?_⟩;by_cases he:k=n
    ·rw[he];exact hf
    ·exact h3 k hk (by omega)
   ·rintro⟨h1,h2,h3⟩;refine⟨?_,h2,fun k hk hkn=>h3 k hk (by omega)⟩;by_cases he:a=n
    ·rw[he,hf]at h2;cases h2
    ·omega
def acV (o items:L1)(b a:Nat):Bool:=decide (at1 o (at1 items a).toNat=at1 o (at1 items b).toNat)
def OW (o items:L1)(b:Nat):List Con:=match J7 (acV o items b) b with
 |some a=>[⟨a,b,true⟩]
 |none=>[]
def CZ (o items:L1)(n:Nat):List Con:=(List.range n).flatMap (OW o items)
def aoD (kept:List Ver)(items:L1):List Con:=IK (apart kept) items++CZ (kJ kept) items items.length
def ai3 (o items:L1)(n:Nat):CZ o items (n+1)=CZ o items n++OW o items n:=by simp[CZ,dN]
variable {l:L1}
def alM (h:l.Nodup){i k:Nat}(hi:i<l.length)(hk:k<l.length)(e:at1 l i=at1 l k):i=k:=by
 have h1:=aY hi;have h2:=aY hk;rw[aB hi]at h1;rw[aB hk]at h2;have h3:l[i]=l[k]:=by rw[k_Option_some_inj h1,k_Option_some_inj h2,e]
 rcases pG i k with hlt|he|hlt
 ·exact absurd h3 (dR.1 h i k hi hk hlt)
 ·exact he
 ·exact absurd h3.symm (dR.1 h k i hk hi hlt)
def axK {kept:List Ver}{items:L1}(hk:∀v∈kept,fQ v=true)(hi:∀x∈items,inT x)(hn:items.Nodup):(aoD kept items).Perm (oO kept items):=by
 have hin:∀v∈kept,inT v.a/\inT v.b:=fun v h=>⟨(sM (hk v h)).1,(sM (hk v h)).2.1⟩;have hj:joined kept=AY (wK kept):=rfl
 have link:∀a b,a<items.length->b<items.length->a≠b->(acV (kJ kept) items b a=true↔(0<=eZ (joined kept) (at1 items a)/\eZ (joined kept) (at1 items a)=eZ (joined kept) (at1 items b))):=by
  intro a b ha hb hne;have h1:=hi _ (aA (aY ha));have h2:=hi _ (aA (aY hb));rw[acV,decide_eq_true_eq,aoC hin rfl h1 h2 (fun e=>hne (alM hn ha hb e)),hj]
 have hmem:∀c,c∈CZ (kJ kept) items items.length↔c∈NP (joined kept) items:=by
  intro c;unfold CZ NP;simp only[List.mem_flatMap,bB];constructor
  ·rintro⟨b,hb,hc⟩;unfold OW at hc;split at hc
   ·next a ha=>
    obtain rfl:c=⟨a,b,true⟩:=by simpa using hc
    obtain⟨h1,h2,h3⟩:=XQ.1 ha;have h4:=(link a b (by omega) hb (by omega)).1 h2;refine⟨a,by omega,?_⟩
    have h5:SH (joined kept) items a=some b:=by
     unfold SH;rw[rA];refine⟨by simp;exact⟨h1,h4.2.symm⟩,by simpa using hb,fun k hkb=> ?_⟩;simp only[gF,lC,decide_eq_false_iff_not];by_cases hak:a<k
     ·right;intro e;have:=(link k b (by omega) hb (by omega)).2 ⟨by rw[e];exact h4.1,by rw[e];exact h4.2⟩;rw[h3 k hak hkb]at this;cases this
     ·left;exact hak
    unfold tH;rw[if_pos h4.1,h5];simp
   ·cases hc
  ·rintro⟨a,ha,hc⟩;unfold tH at hc;split at hc
   ·next h0=>
    split at hc
    ·next b hb=>
     obtain rfl:c=⟨a,b,true⟩:=by simpa using hc
     unfold SH at hb;rw[rA]at hb;obtain⟨h1,h2,h3⟩:=hb;simp only[k_Bool_and_eq_true,decide_eq_true_eq]at h1;have hbl:b<items.length:=by simpa using h2
     refine⟨b,hbl,?_⟩
     have h5:J7 (acV (kJ kept) items b) b=some a:=by
      rw[XQ];refine⟨h1.1,(link a b ha hbl (by omega)).2 ⟨h0,h1.2.symm⟩,fun k hak hkb=> ?_⟩;rw[kE];intro hl;have h6:=(link k b (by omega) hbl (by omega)).1 hl;have h7:=h3 k hkb;simp only[gF,lC,decide_eq_false_iff_not]at h7;rcases h7 with h7|h7
      ·exact h7 hak
      ·exact h7 (by rw[h6.2,h1.2])
     unfold OW;rw[h5];simp
    ·cases hc
   ·cases hc
 have hnd1:(CZ (kJ kept) items items.length).Nodup:=by
  refine List.pairwise_flatMap.2 ⟨fun b _=> ?_,List.pairwise_lt_range.imp fun{b b'} hlt x hx y hy=> ?_⟩
  ·unfold OW;split<;>simp
  ·unfold OW at hx hy;split at hx<;>split at hy
   ·obtain rfl:=k_List_mem_singleton.1 hx;obtain rfl:=k_List_mem_singleton.1 hy;intro e;have:=congrArg Con.b e;simp at this;omega
   all_goals simp at hx hy
 have hnd2:(NP (joined kept) items).Nodup:=by
  refine List.pairwise_flatMap.2 ⟨fun b _=> ?_,List.pairwise_lt_range.imp fun{b b'} hlt x hx y hy=> ?_⟩
  ·unfold tH;split
   ·split<;>simp
   ·simp
  ·unfold tH at hx hy;split at hx<;>split at hy
   ·split at hx<;>split at hy
    ·obtain rfl:=k_List_mem_singleton.1 hx;obtain rfl:=k_List_mem_singleton.1 hy;intro e;have:=congrArg Con.a e;simp at this;omega
    all_goals simp at hx hy
   all_goals simp at hx hy
 have hp:=(List.perm_ext_iff_of_nodup hnd1 hnd2).2 hmem;unfold aoD oO;exact List.perm_append_comm.trans (hp.append_right _)
def gstep (c:Nat->Int->Bool)(v:Int)(k:Nat)(l:L1):L1:=if c k (at1 l k)=true then l.set k v else l
def ag3 (c:Nat->Int->Bool)(v:Int)(l:L1):∀j≤l.length,(loopN j l (gstep c v)).length=l.length/\∀k,k<l.length->at1 (loopN j l (gstep c v)) k=if k<j/\c k (at1 l k)=true then v else at1 l k
 |0,_=>⟨rfl,fun k hk=>by rw[loopN_zero,if_neg (by omega)]⟩
 |j+1,hj=>by
  obtain⟨h1,h2⟩:=ag3 c v l j (by omega);rw[aM];have h3:=h2 j (by omega);rw[if_neg (by omega)]at h3;generalize loopN j l (gstep c v)=o at h1 h2 h3|-
  unfold gstep;rw[h3];by_cases hc:c j (at1 l j)=true
  ·rw[if_pos hc];refine⟨by simp[h1],fun k hk=> ?_⟩;rw[AR k (by omega),h2 k hk];by_cases hjk:j=k
   ·subst hjk;rw[if_pos rfl,if_pos ⟨by omega,hc⟩]
   ·rw[if_neg hjk];by_cases h4:k<j/\c k (at1 l k)=true
    ·rw[if_pos h4,if_pos ⟨by omega,h4.2⟩]
    ·rw[if_neg h4,if_neg (fun h5=>h4 ⟨by omega,h5.2⟩)]
  ·rw[if_neg hc];refine⟨h1,fun k hk=> ?_⟩;rw[h2 k hk];by_cases h4:k<j/\c k (at1 l k)=true
   ·rw[if_pos h4,if_pos ⟨by omega,h4.2⟩]
   ·rw[if_neg h4,if_neg];rintro⟨h5,h6⟩;by_cases hjk:k=j
    ·subst hjk;exact hc h6
    ·exact h4 ⟨by omega,h6⟩
def pvB (m:L2)(p:Nat)(k:Nat)(z:Int):Bool:=decide (0<at2 m p k)&&decide (z<0)
def ac0 (m:L2)(order:L1)(i:Nat)(l:L1):L1:=if 0<=at1 l (at1 order i).toNat then l else loopN m.length (l.set (at1 order i).toNat (at1 order i)) (gstep (pvB m (at1 order i).toNat) (at1 order i))
def aEH (m:L2)(order:L1):L1:=loopN order.length (List.replicate m.length (-1)) (ac0 m order)
def PvR (order:L1)(n:Nat)(a b:L1):Prop:=a.length=n/\b.length=n/\∀k<n,(at1 a k= -1/\at1 b k= -1)\/(0<=at1 a k/\at1 a k<order.length/\at1 b k=at1 order (at1 a k).toNat)
def azF (m:L2)(p x:Int):A7 m p x=gstep (fun k z=>decide (z<0/\((k:Int)=p\/at2 m p.toNat k>0))) x:=by
 funext k l;unfold A7 gstep;simp only[decide_eq_true_eq]
variable {m:L2}{order:L1}
def aKR (hm:bR m=true)(ho:JU m.length order=true):∀j≤order.length,PvR order m.length (loopN j (List.replicate m.length (-1)) (pivOne m order)) (loopN j (List.replicate m.length (-1)) (ac0 m order)):=by
 obtain⟨hol,_,_,hnd,hrg⟩:=Z0 ho;intro j
 induction j with
 |zero=>
  refine fun _=>⟨by simp[loopN_zero],by simp[loopN_zero],fun k hk=> .inl ?_⟩;simp[loopN_zero,at1,aC,hk]
 |succ j ih=>
  intro hj;have hr:=ih (by omega);rw[aM,aM];generalize loopN j (List.replicate m.length (-1)) (pivOne m order)=a at hr|-
  generalize loopN j (List.replicate m.length (-1)) (ac0 m order)=b at hr|-
  obtain⟨ha,hb,h⟩:=hr;have hp:=hrg j (by omega);have hpl:(at1 order j).toNat<m.length:=by omega
  have hpp:=h _ hpl;unfold pivOne ac0
  have hsg:(0<=at1 a (at1 order j).toNat)↔(0<=at1 b (at1 order j).toNat):=by
   rcases hpp with⟨h1,h2⟩|⟨h1,h2,h3⟩
   ·omega
   ·have:=hrg (at1 a (at1 order j).toNat).toNat (by omega);omega
  by_cases h0:0<=at1 a (at1 order j).toNat
  ·rw[if_pos h0,if_pos (hsg.1 h0)];exact⟨ha,hb,h⟩
  ·rw[if_neg h0,if_neg (fun e=>h0 (hsg.2 e)),azF];obtain⟨g1,g2⟩:=ag3 (fun k z=>decide (z<0/\((k:Int)=at1 order j\/at2 m (at1 order j).toNat k>0))) (j:Int) a m.length (by omega);obtain⟨g3,g4⟩:=ag3 (pvB m (at1 order j).toNat) (at1 order j) (b.set (at1 order j).toNat (at1 order j)) m.length (by simp[hb]);refine⟨by rw[g1,ha],by rw[g3];simp[hb],fun k hk=> ?_⟩;rw[g2 k (by omega),g4 k (by simp[hb,hk])];rw[AR k (by omega)];have hk0:=h k hk
   have hd:at2 m (at1 order j).toNat (at1 order j).toNat=0:=by
    have:=hm;rw[abR]at this;simp only[G7,k_Bool_and_eq_true,aH,bB,decide_eq_true_eq]at this;exact(this.1 _ hpl).1.2
   by_cases hkp:(at1 order j).toNat=k
   ·rw[if_pos hkp];have h5:at1 a k<0:=by rw[←hkp];omega
    rw[if_pos ⟨hk,by simp only[decide_eq_true_eq];exact⟨h5,.inl (by omega)⟩⟩];rw[if_neg (by rintro⟨_,h6⟩;simp only[pvB,k_Bool_and_eq_true,decide_eq_true_eq]at h6;omega)];right;refine⟨by omega,by omega,?_⟩;simp
   ·rw[if_neg hkp];have hkp':¬(k:Int)=at1 order j:=by omega
    by_cases hw:at1 a k<0/\at2 m (at1 order j).toNat k>0
    ·have hbk:at1 b k<0:=by
      rcases hk0 with h6|h6
      ·omega
      ·omega
     rw[if_pos ⟨hk,by simp only[decide_eq_true_eq];exact⟨hw.1,.inr hw.2⟩⟩,if_pos ⟨hk,by simp only[pvB,k_Bool_and_eq_true,decide_eq_true_eq];exact⟨hw.2,hbk⟩⟩];right;refine⟨by omega,by omega,by simp⟩
    ·rw[if_neg (by rintro⟨_,h6⟩;simp only[decide_eq_true_eq]at h6;exact hw ⟨h6.1,h6.2.resolve_left hkp'⟩)];rw[if_neg]
     ·exact hk0
     ·rintro⟨_,h6⟩;simp only[pvB,k_Bool_and_eq_true,decide_eq_true_eq]at h6;rcases hk0 with h7|⟨h7,h8,h9⟩
      ·exact hw ⟨by omega,h6.1⟩
      ·have:=hrg (at1 a k).toNat (by omega);omega
def aEG (hm:bR m=true)(ho:JU m.length order=true):canon (aEH m order)=kX m order:=by
 obtain⟨hol,_,_,hnd,hrg⟩:=Z0 ho;obtain⟨h1,h2,h3⟩:=aKR hm ho order.length (k_Nat_le_refl _);unfold kX aeY aEH;refine(an7 (by rw[h1,h2]) fun i k hi hk=> ?_).symm;rw[h1]at hi hk;have a:=h3 i hi;have b:=h3 k hk;rcases a with⟨a1,a2⟩|⟨a1,a2,a3⟩<;>rcases b with⟨b1,b2⟩|⟨b1,b2,b3⟩
 ·omega
 ·have:=hrg _ (show(at1 (loopN order.length (List.replicate m.length (-1)) (pivOne m order)) k).toNat<order.length by omega);omega
 ·have:=hrg _ (show(at1 (loopN order.length (List.replicate m.length (-1)) (pivOne m order)) i).toNat<order.length by omega);omega
 ·rw[a3,b3];constructor
  ·intro e;rw[e]
  ·intro e;have:=alM hnd (by omega) (by omega) e;omega
def atN {σ:Type}{n:Nat}{s:σ}{f:Nat->σ->σ}(h:∀i x,a<=i->i<n->f i x=x)(ha:a<=n):loopN n s f=loopN a s f:=by
 induction n with
 |zero=>obtain rfl:a=0:=by omega
        rfl
 |succ n ih=>
  by_cases he:a=n+1
  ·rw[he]
  ·rw[aM,h n _ (by omega) (by omega)];exact ih (fun i x h1 h2=>h i x h1 (by omega)) (by omega)
def mvGain (m:L2)(l:L1)(i k:Nat):Int:=dP m l-dP m (canon (l.set i k))
def JZ (m:L2)(cs:List Con)(l:L1)(i k:Nat)(b:Mov):Mov:=if mvGain m l i k>b.gain/\nQ cs (canon (l.set i k))=true then⟨i,k,mvGain m l i k⟩else b
def av7 (m:L2)(cs:List Con)(l:L1)(i:Nat)(b:Mov):Mov:=loopN (D7 l+2).toNat b (JZ m cs l i)
def mvBest (m:L2)(cs:List Con)(l:L1):Mov:=loopN l.length ⟨0,0,0⟩ (av7 m cs l)
def ar1 (h:gD l=true):D7 l<l.length/\ -1<=D7 l:=by
 have hr:=(isPart_iff.1 h).1;have hl:=(isPart_len h).1
 have key:∀j≤l.length, -1<=loopN j (-1) (fun i t=>max t (at1 l i))/\loopN j (-1) (fun i t=>max t (at1 l i))<(l.length:Int):=by
  intro j
  induction j with
  |zero=>intro _;rw[loopN_zero];omega
  |succ j ih=>
   intro hj;have:=ih (by omega);have:=az9 hr j (by omega);rw[aM];omega
 have:=key l.length (k_Nat_le_refl _);unfold D7;omega
def V6 (h:1<=l.length/\l.length<=8):gD (canon l)=true:=isPart_iff.2 ⟨MJ l,by rw[qF];exact h.1,by rw[qF];exact h.2⟩
def NL (hm:bR m=true)(hp:gD l=true)(hl:l.length=m.length):xL m l=dP m l:=if_pos ⟨hm,hp,hl⟩
variable {cs:List Con}
def ayU (hm:bR m=true)(hp:gD l=true)(hl:l.length=m.length)(hk:nQ cs l=true):mvBest m cs l=nC m cs l:=by
 have hc:an6 m cs l=true:=by
  unfold an6;rw[NL hm hp hl,apL hp,hk];have:=kU hm l;simp[this]
 have ht:=ar1 hp;have hpl:=isPart_len hp;unfold mvBest nC;rw[if_pos hc];refine yC fun i b hi=> ?_;unfold av7 afH
 have h1:loopN (l.length+1) b (zC m cs l i)=loopN (D7 l+2).toNat b (zC m cs l i):=by
  refine atN (fun k x h1 h2=> ?_) (by omega);unfold zC;rw[if_neg];rintro⟨h3,_⟩;simp only[zU,k_Bool_and_eq_true,decide_eq_true_eq]at h3;omega
 rw[h1];refine yC fun k b hk2=> ?_
 have hok:zU l i k=true:=by
  simp only[zU,k_Bool_and_eq_true,decide_eq_true_eq];exact⟨⟨hp,by omega⟩,by omega⟩
 have hmv:sK l i k=canon (l.set i k):=by
  unfold sK;rw[if_pos hok];simp
 have hcl:(canon (l.set i k)).length=l.length:=by rw[qF];simp
 have hcp:gD (canon (l.set i k))=true:=V6 (by simp;omega)
 have hg:NB m l i k=mvGain m l i k:=by
  unfold NB mvGain;have:=kU hm l;rw[NL hm hp hl,if_pos ⟨hok,this⟩,hmv,NL hm hcp (by omega)]
 unfold JZ zC;rw[hg,hmv,apL hcp];simp[hok]
def akL :0<=(mvBest m cs l).gain/\(0<(mvBest m cs l).gain->0<=(mvBest m cs l).item/\(mvBest m cs l).item<l.length/\0<=(mvBest m cs l).block/\(mvBest m cs l).block<=D7 l+1/\nQ cs (canon (l.set (mvBest m cs l).item.toNat (mvBest m cs l).block))=true):=by
 refine loopN_inv (fun _ (b:Mov)=>0<=b.gain/\(0<b.gain->0<=b.item/\b.item<l.length/\0<=b.block/\b.block<=D7 l+1/\nQ cs (canon (l.set b.item.toNat b.block))=true)) ⟨by simp,by simp⟩ fun i b hi hb=> ?_;refine loopN_inv (fun _ (b:Mov)=>0<=b.gain/\(0<b.gain->0<=b.item/\b.item<l.length/\0<=b.block/\b.block<=D7 l+1/\nQ cs (canon (l.set b.item.toNat b.block))=true)) hb fun k b hk hb=> ?_;unfold JZ;split
 ·next h=>exact⟨by simp only;omega,fun _=>⟨by simp only;omega,by simp only;omega,by simp only;omega,by simp only;omega,by simpa using h.2⟩⟩
 ·exact hb
def atH (hm:bR m=true)(hp:gD l=true)(hl:l.length=m.length)(hk:nQ cs l=true)(f:Nat):sD m cs (f+1) l=if 0<(mvBest m cs l).gain then sD m cs f (canon (l.set (mvBest m cs l).item.toNat (mvBest m cs l).block))else l:=by
 rw[sD,←ayU hm hp hl hk];obtain⟨h1,h2⟩:=akL (m:=m) (cs:=cs) (l:=l);split
 ·next hg=>
  have h3:=h2 hg;congr 1;unfold sK;rw[if_pos];simp only[zU,k_Bool_and_eq_true,decide_eq_true_eq];exact⟨⟨hp,by omega⟩,by omega⟩
 ·rfl
end Go.Pl
end
section
namespace Go
def gV:= @List.set_append_right
def cB:= @Nat.sub_self
end Go
end
section
namespace Go.Pl
open Go.Dv
variable {n:Nat}
def awJ {a b:L2}(ha:sq2 n a)(hb:sq2 n b)(h:∀i k,i<n->k<n->at2 a i k=at2 b i k):a=b:=by
 apply kF;intro i;by_cases hi:i<n
 ·rw[(tJ ha hi).1,(tJ hb hi).1];congr 1;refine alL (by rw[(tJ ha hi).2,(tJ hb hi).2]) fun k hk=> ?_;rw[(tJ ha hi).2]at hk;exact h i k hi hk
 ·rw[k_List_getElem__eq_none (by rw[ha.1];omega),k_List_getElem__eq_none (by rw[hb.1];omega)]
def wAt (l:List Rec)(rs:List (List Tst))(s:Sco)(i k:Nat):Int:=iZ rs s (pF (recAt l i) (recAt l k))
def alQ (l:List Rec)(rs:List (List Tst))(s:Sco)(i k:Nat)(m:L2):L2:=set2 (set2 m i k (wAt l rs s i k)) k i (wAt l rs s i k)
def an2 (l:List Rec)(rs:List (List Tst))(s:Sco)(i:Nat)(m:L2):L2:=loopN i m (alQ l rs s i)
def bwM (l:List Rec)(rs:List (List Tst))(s:Sco):L2:=loopN l.length (zeros l.length) (an2 l rs s)
variable {i k:Nat}
def aK6 (l:List Rec)(rs:List (List Tst))(s:Sco)(h:k<i):wAt l rs s i k=mP l rs s i k:=by
 unfold wAt mP;rw[if_neg (by omega),Nat.min_eq_right (by omega),Nat.max_eq_left (by omega),as1]
variable {l:List Rec}{rs:List (List Tst)}{s:Sco}{m:L2}
def alR (h:sq2 n m)(hi:i<n)(hk:k<i):sq2 n (alQ l rs s i k m):=yS (yS h hi _) (by omega) _
def aLF (h:sq2 n m)(hi:i<n)(hk:k<=i):sq2 n (loopN k m (alQ l rs s i)):=loopN_inv (fun _ m=>sq2 n m) h fun j m hj hm=>alR hm hi (by omega)
def aJL (hi:i<=n):sq2 n (loopN i (zeros n) (an2 l rs s)):=loopN_inv (fun _ m=>sq2 n m) (qL n) fun j m hj hm=>aLF hm (by omega) (k_Nat_le_refl _)
def aJK (l:List Rec)(rs:List (List Tst))(s:Sco):bwM l rs s=weights l rs s:=by
 have hw:sq2 l.length (weights l rs s):=⟨by simp[weights],fun r hr=>by
  unfold weights at hr;rw[dG]at hr;obtain⟨i,_,rfl⟩:=hr;simp[yV]⟩
 refine awJ (aJL (k_Nat_le_refl _)) hw fun a b ha hb=> ?_;rw[X3 l rs s ha hb]
 have key:=loopN_inv (n:=l.length) (s:=zeros l.length) (f:=an2 l rs s) (fun i m=>sq2 l.length m/\∀a b,a<l.length->b<l.length->at2 m a b=if a<i/\b<i then mP l rs s a b else 0) ⟨qL _,fun a b _ _=>by rw[MI,if_neg (by omega)]⟩ fun i m hi ⟨h1,h2⟩=>by
  have h3:=loopN_inv (n:=i) (s:=m) (f:=alQ l rs s i) (fun k m'=>sq2 l.length m'/\∀a b,a<l.length->b<l.length->at2 m' a b=if(a<i/\b<i)\/(a=i/\b<k)\/(b=i/\a<k)then mP l rs s a b else 0) ⟨h1,fun a b ha hb=>by rw[h2 a b ha hb];by_cases hc:a<i/\b<i;(rw[if_pos hc,if_pos (.inl hc)]);rw[if_neg hc,if_neg (by omega)]⟩ fun k m' hk ⟨h4,h5⟩=>by
   refine⟨alR h4 hi hk,fun a b ha hb=> ?_⟩;unfold alQ;rw[FL (yS h4 hi _) (by omega) hi,FL h4 hi (by omega),h5 a b ha hb,aK6 l rs s hk];by_cases c1:a=k/\b=i
   ·obtain⟨rfl,rfl⟩:=c1;rw[if_pos ⟨rfl,rfl⟩,if_pos (by omega),VX]
   ·rw[if_neg c1];by_cases c2:a=i/\b=k
    ·obtain⟨rfl,rfl⟩:=c2;rw[if_pos ⟨rfl,rfl⟩,if_pos (by omega)]
    ·rw[if_neg c2];by_cases c3:(a<i/\b<i)\/(a=i/\b<k)\/(b=i/\a<k)
     ·rw[if_pos c3,if_pos (by omega)]
     ·rw[if_neg c3,if_neg (by omega)]
  refine⟨h3.1,fun a b ha hb=> ?_⟩;rw[an2,h3.2 a b ha hb];by_cases c:a=i/\b=i
  ·obtain⟨rfl,rfl⟩:=c;rw[if_neg (by omega),if_pos (by omega)];simp[mP]
  ·by_cases c2:(a<i/\b<i)\/(a=i/\b<i)\/(b=i/\a<i)
   ·rw[if_pos c2,if_pos (by omega)]
   ·rw[if_neg c2,if_neg (by omega)]
 rw[bwM,key.2 a b ha hb,if_pos ⟨ha,hb⟩]
variable {j:Nat}
section
variable (x y:Str) (tr:Bool)
def edP (i k:Nat):L1:=edR x y tr i k++List.replicate (y.length+1-k) 0
def edT (i:Nat):L2:=(List.range i).map fun i=>edR x y tr i (y.length+1)
def edU (i k:Nat):L2:=edT x y tr i++edP x y tr i k::List.replicate (x.length-i) []
variable {x y tr}
def TU (i k:Nat):(edR x y tr i k).length=k:=by simp[edR]
def aF0 (h:k<=y.length+1):(edP x y tr i k).length=y.length+1:=by simp[edP,TU];omega
def aeO (h:j<k:=by omega):(edR x y tr i k)[j]?=some (ed x y tr i j):=by simp[edR,h]
def aFZ (h:j<k):(edP x y tr i k)[j]?=some (ed x y tr i j):=by
 rw[edP,bA (by rw[TU];exact h),aeO h]
def aJP (h:k<=y.length):(edP x y tr i k)[k]?=some 0:=by
 rw[edP,aN (by rw[TU];omega),TU,cB,fG,if_pos (by omega)]
def aF1 (h:k<=y.length):(edP x y tr i k).set k (ed x y tr i k)=edP x y tr i (k+1):=by
 obtain⟨d,hd⟩:∃d,y.length+1-k=d+1:=⟨y.length-k,by omega⟩;have hd2:y.length+1-(k+1)=d:=by omega
 rw[edP,edP,hd,hd2,gV _ _ (by rw[TU];omega),TU,cB,fU,eG,edR,edR,dN,fH];simp
def FC (i:Nat):(edT x y tr i).length=i:=by simp[edT]
def avL (h:j<i):(edT x y tr i)[j]?=some (edR x y tr j (y.length+1)):=by simp[edT,h]
def aF3 (h:j<i):(edU x y tr i k)[j]?=some (edR x y tr j (y.length+1)):=by
 rw[edU,bA (by rw[FC];exact h),avL h]
def avM (i k:Nat):(edU x y tr i k)[i]?=some (edP x y tr i k):=by
 rw[edU,aN (by rw[FC];omega),FC,cB];rfl
def aF5 (i k:Nat)(r:L1):(edU x y tr i k).set i r=edT x y tr i++r::List.replicate (x.length-i) []:=by
 rw[edU,gV _ _ (by rw[FC];omega),FC,cB];rfl
def aBC (i:Nat):edT x y tr (i+1)=edT x y tr i++[edR x y tr i (y.length+1)]:=by simp[edT,dN]
def aFY (i:Nat):edP x y tr i (y.length+1)=edR x y tr i (y.length+1):=by simp[edP]
end
section
variable {α:Type}
def iD (p:α->α->Bool)(l:List α):List α:=l.foldl (fun out v=>gN (p v) out v) []
def ZY (out:List α)(v:α)(j:Nat):List α:=out.take j++v::out.drop j
def EZ (p:α->α->Bool)(l:List α)(i j:Nat)(v:α):List α:=ZY (iD p (l.take i)) v j++l.drop (i+1)
def akC (p:α->α->Bool)(l:List α):(iD p l).length=l.length:=by have:=FI p l [];rwa [jI,bT]at this
def xY {p:α->α->Bool}{l:List α}(h:i<=l.length:=by omega):(iD p (l.take i)).length=i:=by rw[akC];simp;omega
def ayE (out:List α)(v:α):ZY out v out.length=out++[v]:=by simp[ZY]
def am4 {p:α->α->Bool}{l:List α}{v:α}(h:l[i]?=some v):EZ p l i i v=iD p (l.take i)++l.drop i:=by
 have hi:=dH h;have hl:=xY (p:=p) (l:=l) (i:=i)
 have:ZY (iD p (l.take i)) v i=iD p (l.take i)++[v]:=by
  have:=ayE (iD p (l.take i)) v
  rwa [hl]at this
 rw[EZ,this,bP,aW hi];rw[aB hi]at h;rw[k_Option_some_inj h];rfl
def ah8 {p:α->α->Bool}{l:List α}{v:α}(hi:i<l.length)(hj:j<=i):(EZ p l i j v)[j]?=some v:=by
 have hl:=xY (p:=p) (l:=l) (i:=i);rw[EZ,ZY,bP,aN (by simp;omega)];simp[hl,fP hj]
def ab3 {p:α->α->Bool}{l:List α}{v c:α}(hi:i<l.length)(hj:j<i)(hc:(iD p (l.take i))[j]?=some c):(EZ p l i (j+1) v)[j]?=some c:=by
 have hl:=xY (p:=p) (l:=l) (i:=i);rw[EZ,ZY,bP,bA (by simp;omega),bD,if_pos (by omega),hc]
def azN {p:α->α->Bool}{l:List α}{v c:α}(hi:i<l.length)(hj:j<i)(hc:(iD p (l.take i))[j]?=some c):((EZ p l i (j+1) v).set (j+1) c).set j v=EZ p l i j v:=by
 have hl:=xY (p:=p) (l:=l) (i:=i);have h1:(iD p (l.take i)).take (j+1)=(iD p (l.take i)).take j++[c]:=dE hc
 have h2:(iD p (l.take i)).drop j=c::(iD p (l.take i)).drop (j+1):=by
  have hlt:=dH hc;rw[aW hlt];rw[aB hlt]at hc;rw[k_Option_some_inj hc]
 have h3:((iD p (l.take i)).take j).length=j:=by simp;omega
 rw[EZ,EZ,ZY,ZY,h1,h2];generalize(iD p (l.take i)).take j=A at h3|-
 generalize(iD p (l.take i)).drop (j+1)=B;subst h3;simp
def NQ {p:α->α->Bool}{l:List α}{v:α}(h:l[i]?=some v)(hj:j<=i)(h1:∀k c,j<=k->(iD p (l.take i))[k]?=some c->p v c=true)(h2:j=0\/∃c,(iD p (l.take i))[j-1]?=some c/\p v c=false):EZ p l i j v=iD p (l.take (i+1))++l.drop (i+1):=by
 have hi:=dH h;have hl:=xY (p:=p) (l:=l) (i:=i)
 have h3:iD p (l.take (i+1))=gN (p v) (iD p (l.take i)) v:=by
  rw[iD,dK _ _ h];rfl
 have h4:=FM (p:=p v) (l:=iD p (l.take i)) (k:=j) (by omega) (fun k hk hlt=>h1 k _ hk (aB hlt)) h2;rw[h3,EZ,ZY,gN,h4];simp
end
def OC (f:Nat->Nat->Int)(i k:Nat)(m:L2):L2:=set2 m i k (f i k)
def YN (n:Nat)(f:Nat->Nat->Int)(i:Nat)(m:L2):L2:=loopN n m (OC f i)
def aBJ (n:Nat)(f:Nat->Nat->Int):L2:=loopN n (zeros n) (YN n f)
variable {f:Nat->Nat->Int}
def as2 (h:sq2 n m)(hi:i<n):sq2 n (loopN j m (OC f i)):=loopN_inv (fun _ m=>sq2 n m) h fun k m _ hm=>yS hm hi _
def aGB (hj:j<=n):sq2 n (loopN j (zeros n) (YN n f)):=loopN_inv (fun _ m=>sq2 n m) (qL n) fun i m hi hm=>as2 hm (by omega)
def aGA {a b:Nat}(ha:a<n)(hb:b<n):at2 (aBJ n f) a b=f a b:=by
 have h:=loopN_inv (n:=n) (s:=zeros n) (f:=YN n f) (fun i m=>sq2 n m/\∀a b,a<i->b<n->at2 m a b=f a b) ⟨qL n,fun a b h=>by omega⟩ fun i m hi ⟨h1,h2⟩=>by
  have h3:=loopN_inv (n:=n) (s:=m) (f:=OC f i) (fun k m'=>sq2 n m'/\(∀a b,a<i->b<n->at2 m' a b=f a b)/\∀b,b<k->at2 m' i b=f i b) ⟨h1,h2,fun b h=>by omega⟩ fun k m' hk ⟨h4,h5,h6⟩=>by
   refine⟨yS h4 hi _,fun a b ha hb=> ?_,fun b hb=> ?_⟩
   ·rw[OC,FL h4 hi hk,if_neg (by omega)];exact h5 a b ha hb
   ·rw[OC,FL h4 hi hk];by_cases e:b=k
    ·subst e;simp
    ·rw[if_neg (by omega)];exact h6 b (by omega)
  refine⟨h3.1,fun a b ha hb=> ?_⟩;by_cases e:a=i
  ·subst e;exact h3.2.2 b hb
  ·exact h3.2.1 a b (by omega) hb
 exact h.2 a b ha hb
def aEZ {items:L1}:aBJ items.length (fun i k=>at2 m (at1 items i).toNat (at1 items k).toNat)=kQ m items:=by
 refine awJ (aGB (k_Nat_le_refl _)) ⟨by simp[kQ],fun r hr=> ?_⟩ fun i k hi hk=> ?_
 ·unfold kQ at hr;rw[dG]at hr;obtain⟨x,_,rfl⟩:=hr;simp
 ·show at2 (aBJ items.length _) i k=_;rw[aGA hi hk,alN hi hk]
end Go.Pl
end
section
namespace Go
def qJ:= @Bool.not_false
def oV:= @List.isSuffixOf_iff_suffix
end Go
end
section
namespace Go.Pl
open Go.Dv
def aFE (c:UInt8)(s:Str):Str:=if s.getLast?=some c then s.dropLast else s
def aFF (c:UInt8)(s:Str):Lib.trimSuffix s [c]=aFE c s:=by
 unfold Lib.trimSuffix Lib.hasSuffix aFE;rcases List.eq_nil_or_concat s with rfl|⟨t,d,rfl⟩
 ·simp
 ·rw[List.concat_eq_append]
  have e:([c].isSuffixOf (t++[d]))=decide (c=d):=by
   by_cases h:c=d
   ·subst h;simp[oV]
   ·have h2:¬[c]<:+t++[d]:=fun hs=>h (by
     obtain⟨p,hp⟩:=hs;have:=congrArg List.getLast? hp;simpa using this)
    have:([c].isSuffixOf (t++[d]))≠true:=fun e=>h2 (oV.1 e);simp[h,this]
  rw[e];by_cases h:c=d
  ·subst h;simp
  ·rw[if_neg (by simpa using h),if_neg];simp only[List.getLast?_append,List.getLast?_singleton,Option.some_or,aJ];exact fun e=>h e.symm
def QY:∀s:Str,Lib.containsAny s [124,59]= !s.all wR
 |[]=>rfl
 |b::l=>by
  have ih:=QY l;unfold Lib.containsAny at ih|-
  have hge:=Lib.indexAny_ge [124,59] l;unfold Lib.indexAny
  have hb:wR b= !(decide (b=124)||decide (b=59)):=by
   unfold wR;have e1:(b.toNat=124)↔b=124:=⟨fun h=>k_UInt8_toNat_inj.1 h,fun h=>by rw[h];rfl⟩;have e2:(b.toNat=59)↔b=59:=⟨fun h=>k_UInt8_toNat_inj.1 h,fun h=>by rw[h];rfl⟩;simp only[e1,e2]
  simp only[wB,hb];by_cases h:b=124\/b=59
  ·rw[if_pos (by simpa using h)];rcases h with h|h<;>simp[h]
  ·have h':b≠124/\b≠59:=⟨fun e=>h (.inl e),fun e=>h (.inr e)⟩;rw[if_neg (by simpa using h')];simp only[h'.1,h'.2,decide_false,Bool.or_self,qJ,fD];rw[←ih];split
   ·rename_i h1;have:Lib.indexAny l [124,59]= -1:=by simpa using h1
    rw[this]
   ·rename_i h1;have:Lib.indexAny l [124,59]≠ -1:=by simpa using h1
    simp;omega
def bef (c:UInt8)(s:Str):Str:=s.takeWhile fun d=>decide (d≠c)
def aft (c:UInt8)(s:Str):Str:=(s.dropWhile fun d=>decide (d≠c)).drop 1
def ZX (c:UInt8):∀s:Str,Lib.indexByte s c=if c∈s then((s.takeWhile fun d=>decide (d≠c)).length:Int)else -1
 |[]=>rfl
 |b::l=>by
  unfold Lib.indexByte;rw[ZX c l];by_cases h:b=c
  ·subst h;simp
  ·have hb:¬(b==c)=true:=by simpa using h
   have hmem:c∈b::l↔c∈l:=⟨fun e=>(aK.1 e).resolve_left (fun e=>h e.symm),fun e=>bC _ e⟩;rw[if_neg hb,List.takeWhile_cons_of_pos (by simpa using h)];by_cases hm:c∈l
   ·rw[if_pos hm,if_pos (hmem.2 hm),if_neg (by rw[beq_iff_eq];omega),k_List_length_cons];omega
   ·rw[if_neg hm,if_neg (fun e=>hm (hmem.1 e))];rfl
def aa6 {c:UInt8}:∀{s:Str},c∈s->s=bef c s++c::aft c s/\c∉bef c s
 |[],h=>by cases h
 |d::s,h=>by
  by_cases hd:d=c
  ·subst hd;simp[bef,aft]
  ·have ih:=aa6 (s:=s) ((aK.1 h).resolve_left (fun e=>hd e.symm));unfold bef aft at ih|-
   rw[List.takeWhile_cons_of_pos (by simpa using hd),List.dropWhile_cons_of_pos (by simpa using hd)];refine⟨by rw[fZ,←ih.1],fun hm=> ?_⟩;rcases aK.1 hm with e|hm
   ·exact hd e.symm
   ·exact ih.2 hm
variable {c:UInt8}{s:Str}
def aE6 (h:c∈s):s.take (s.takeWhile fun d=>decide (d≠c)).length=bef c s/\s.drop ((s.takeWhile fun d=>decide (d≠c)).length+1)=aft c s:=by
 have hs:=(aa6 h).1;have hb:(s.takeWhile fun d=>decide (d≠c))=bef c s:=rfl;rw[hb];constructor
 ·conv=>lhs;rw[hs]
  rw[show bef c (bef c s++c::aft c s)=bef c s by rw[←hs]];simp
 ·conv=>lhs;rw[hs]
  rw[show bef c (bef c s++c::aft c s)=bef c s by rw[←hs],qZ,List.drop_of_length_le (by omega),show(bef c s).length+1-(bef c s).length=1 by omega];simp
def aaM (c:UInt8):∀(k:Nat) (s:Str),s.count c=k->Lib.replaceK [c] [] k s=s.filter fun d=> !decide (d=c)
 |0,s,h=>by
  have hm:c∉s:=List.count_eq_zero.1 h;unfold Lib.replaceK;symm;rw[nJ];intro d hd;simp;rintro rfl;exact hm hd
 |k+1,s,h=>by
  have hm:c∈s:=List.count_pos_iff.1 (by omega);have ht:=aE6 hm;have hs:=aa6 hm;have h2:(bef c s++c::aft c s).count c=k+1:=by rw[←hs.1];exact h
  rw[List.count_append,List.count_eq_zero.2 hs.2,List.count_cons_self]at h2;unfold Lib.replaceK;rw[Lib.index_one,ZX,if_pos hm,if_neg (by rw[beq_iff_eq];omega)];simp only[iJ,eF,ht.1,ht.2,dW];rw[aaM c k (aft c s) (by omega)]
  conv=>rhs;rw[hs.1]
  rw[eD,rR (by simp)];congr 1;symm;rw[nJ];intro d hd;simp;rintro rfl;exact hs.2 hd
def ah3 (c:UInt8)(s:Str):Lib.replaceAll s [c] []=s.filter fun d=> !decide (d=c):=by
 unfold Lib.replaceAll Lib.replace;rw[if_neg (by simp)];have:Lib.replaceNum s [c] (-1)=s.count c:=by unfold Lib.replaceNum;rw[if_pos (.inl (by omega)),Lib.count_one]
 rw[this,aaM c _ s rfl]
def aFD (s:Str):alA s=aFE 32 s:=rfl
def isSp (x:Nat):Bool:=decide (x=32)
def ext(s:Str)(x:Nat×Nat):Str:=(s.drop x.1).take (x.2-x.1)
def aFH {i:Nat}(h:s[i]?=some c)(hc:c.toNat<128):Utf8.decode (⟨s.toArray⟩:ByteArray) i=(c.toNat,1):=by
 have hi:=dH h;rw[aB hi]at h;unfold Utf8.decode;simp[ByteArray.get!,hi,k_Option_some_inj h,hc]
def YF (s:Str)(pos:Nat):Option Nat->Str
 |none=>[]
 |some a=>(s.drop a).take (pos-a)
def spans_eq (hs:∀c∈s,c.toNat<128):∀(f pos:Nat) (st:Option Nat) (acc:List (Nat×Nat)),s.length-pos<=f->pos<=s.length->(∀a,st=some a->a<pos)->
  (Lib.closeSpans ⟨s.toArray⟩ (Lib.spansFromP isSp ⟨s.toArray⟩ f pos st acc)).map (ext s)=acc.map (ext s)++(WA 32 (YF s pos st) (s.drop pos)).filter fun x=>decide (x≠[])
 |f,pos,st,acc,hf,hp,hst=>by
  have hsz:(⟨s.toArray⟩:ByteArray).size=s.length:=by simp[ByteArray.size]
  by_cases hlt:pos<s.length
  ·cases f with
   |zero=>omega
   |succ f=>
    obtain⟨c,hc⟩:∃c,s[pos]?=some c:=⟨s[pos],by simp[hlt]⟩;have hca:=hs c (aA hc);have hd:=aFH hc hca;have hdr:s.drop pos=c::s.drop (pos+1):=by rw[aW hlt];rw[aB hlt]at hc;rw[k_Option_some_inj hc]
    have ih:=fun st acc h=>spans_eq hs f (pos+1) st acc (by omega) (by omega) h;unfold Lib.spansFromP;rw[if_pos (by rw[hsz];exact hlt),hd,hdr];unfold WA
    have hct:isSp c.toNat=true↔c=32:=by
     unfold isSp;rw[decide_eq_true_eq];exact⟨fun e=>k_UInt8_toNat_inj.1 (by simpa using e),fun e=>by rw[e];rfl⟩
    by_cases h32:c=32
    ·rw[if_pos (hct.2 h32),if_pos h32];cases st with
     |none=>
      simp only;rw[ih none acc (fun a h=>by cases h)];simp[YF]
     |some a=>
      have ha:=hst a rfl;simp only;rw[ih none _ (fun a h=>by cases h)]
      have hne:ext s (a,pos)≠[]:=by
       intro e;have:=congrArg List.length e;simp[ext]at this;omega
      have hcw:YF s pos (some a)=ext s (a,pos):=rfl;rw[hcw,nE (by simpa using hne)];simp[YF]
    ·rw[if_neg (fun e=>h32 (hct.1 e)),if_neg h32];cases st with
     |none=>
      simp only;rw[ih (some pos) acc (fun a h=>by cases h;omega)];have:YF s (pos+1) (some pos)=YF s pos none++[c]:=by simp[YF,hdr]
      rw[this]
     |some a=>
      have ha:=hst a rfl;simp only;rw[ih (some a) acc (fun b h=>by cases h;omega)]
      have:YF s (pos+1) (some a)=YF s pos (some a)++[c]:=by
       simp only[YF];rw[show pos+1-a=pos-a+1 by omega];exact dE (by rw[dX,show a+(pos-a)=pos by omega];exact hc)
      rw[this]
  ·obtain rfl:pos=s.length:=by omega
   have he:Lib.spansFromP isSp ⟨s.toArray⟩ f s.length st acc=(acc,st):=Lib.spansFromP_end _ _ _ _ _ _ (by rw[hsz];omega);rw[he,List.drop_length];cases st with
   |none=>simp[Lib.closeSpans,YF,WA]
   |some a=>
    have ha:=hst a rfl
    have hne:YF s s.length (some a)≠[]:=by
     intro e;have:=congrArg List.length e;simp[YF]at this;omega
    simp only[Lib.closeSpans,WA];rw[nE (by simpa using hne),hsz];simp[ext,YF]
def ajY (hs:∀c∈s,c.toNat<128):(Lib.goFieldsP isSp ⟨s.toArray⟩).map (fun b=>b.data.toList)=PG s:=by
 unfold Lib.goFieldsP Lib.spansOfP;have hsz:(⟨s.toArray⟩:ByteArray).size=s.length:=by simp[ByteArray.size]
 have:=spans_eq hs s.length 0 none [] (by omega) (by omega) (fun a h=>by cases h);rw[uD]
 have he:(fun b:ByteArray=>b.data.toList)∘(fun x:Nat×Nat=>(⟨s.toArray⟩:ByteArray).extract x.1 x.2)=ext s:=by
  funext x;simp only[Function.comp_apply,Lib.extract_data,ext]
 rw[he,hsz,this];rfl
end Go.Pl
end
section
namespace Go
def jX:= @Nat.pow_le_pow_right
end Go
end
section
namespace Go.Pl
open Go.Dv
def aFU (c:UInt8):Prop:=48<=c.toNat/\c.toNat<=57
def aeN (m:Nat):aFU (UInt8.ofNat (48+m % 10))/\(UInt8.ofNat (48+m % 10)).toNat=48+m % 10:=by
 have h:(UInt8.ofNat (48+m % 10)).toNat=48+m % 10:=by rw[sI];omega
 exact⟨⟨by omega,by omega⟩,h⟩
def ahK:∀(m:Nat),∀c∈mI m,aFU c:=by
 intro m
 induction m using Nat.strongRecOn with
 |ind m ih=>
  intro c hc;by_cases h0:m=0
  ·subst h0;rw[uS]at hc;cases hc
  ·rw[vL h0]at hc;rcases k_List_mem_append.1 hc with hc|hc
   ·exact ih (m/10) (by omega) c hc
   ·obtain rfl:=k_List_mem_singleton.1 hc;exact(aeN m).1
def akT {st:Int×Int}{c:UInt8}(h:aFU c):LD st c=(st.1*10+(c.toNat-48),st.2+1):=if_pos h
def acY (m:Nat):(mI m).foldl LD (0,0)=((m:Int),((mI m).length:Int)):=by
 induction m using Nat.strongRecOn with
 |ind m ih=>
  by_cases h0:m=0
  ·subst h0;rw[uS];rfl
  ·rw[vL h0,kG,ih (m/10) (by omega),k_List_foldl_cons,List.foldl_nil,akT (aeN m).1,(aeN m).2];simp only[aR,k_List_length_cons,jI];congr 1
   ·omega
def akM {m:Nat}(h:m≠0):mI m≠[]:=by rw[vL h];simp
variable {n:Int}
def azE (h: -999999999<=n/\n<=999999999):nT (zF n)=true/\mJ (zF n)=n:=by
 have hl:=OY n.natAbs 9 (by omega)
 have key:mJ (zF n)=n/\(uJ (zF n)).2<=9/\(zF n).length<=10:=by
  by_cases h0:n=0
  ·subst h0;decide
  ·by_cases hn:n<0
   ·have hf:zF n=45::mI n.natAbs:=by rw[zF,if_neg h0,if_pos hn];rfl
    have hp:uJ (zF n)=((n.natAbs:Int),((mI n.natAbs).length:Int)):=by
     rw[uJ,hf,k_List_take_of_length_le (by simp;omega),k_List_foldl_cons,show LD (0,0) 45=(0,0)from if_neg (by decide),acY]
    refine⟨?_,by rw[hp];simp;omega,by rw[hf];simp;omega⟩;rw[mJ,if_pos (by rw[hf];rfl),hp];simp only;omega
   ·have hf:zF n=mI n.natAbs:=by rw[zF,if_neg h0,if_neg hn];rfl
    have hp:uJ (zF n)=((n.natAbs:Int),((mI n.natAbs).length:Int)):=by
     rw[uJ,hf,k_List_take_of_length_le (by omega),acY]
    refine⟨?_,by rw[hp];simp;omega,by rw[hf];omega⟩;rw[mJ,if_neg,hp]
    ·simp only;omega
    ·rw[hf];intro h1;have:=ahK _ _ (aA h1);exact absurd this.1 (by decide)
 refine⟨?_,key.1⟩;simp only[nT,k_Bool_and_eq_true,decide_eq_true_eq];exact⟨⟨key.2.1,key.2.2⟩,by rw[key.1]⟩
def GR:∀(s:Str) (st:Int×Int),0<=st.1->st.1<10^st.2.toNat->0<=st.2->0<=(s.foldl LD st).1/\(s.foldl LD st).1<10^(s.foldl LD st).2.toNat/\0<=(s.foldl LD st).2
 |[],st,h1,h2,h3=>⟨h1,h2,h3⟩
 |c::s,st,h1,h2,h3=>by
  rw[k_List_foldl_cons];by_cases hc:aFU c
  ·rw[akT hc];refine GR s _ ?_ ?_ ?_
   ·have:=hc.1;simp only;omega
   ·have:=hc.2;simp only;rw[show(st.2+1).toNat=st.2.toNat+1 by omega,Int.pow_succ];have:=hc.1;omega
   ·simp only;omega
  ·rw[show LD st c=st from if_neg hc];exact GR s st h1 h2 h3
def azD {s:Str}(h:nT s=true): -999999999<=mJ s/\mJ s<=999999999:=by
 simp only[nT,k_Bool_and_eq_true,decide_eq_true_eq]at h;have hp:=GR (s.take 11) (0,0) (by simp) (by simp) (by simp);have hk:(uJ s).2.toNat<=9:=by omega
 have h10:(10:Int)^(uJ s).2.toNat<=1000000000:=by
  have h1:(10:Nat)^(uJ s).2.toNat<=10^9:=jX (by omega) hk;have h2:((10^(uJ s).2.toNat:Nat):Int)<=((10^9:Nat):Int):=by exact_mod_cast h1
  simpa using h2
 have h5:0<=(uJ s).1/\(uJ s).1<10^(uJ s).2.toNat:=⟨hp.1,hp.2.1⟩;unfold mJ;split<;>omega
def decDigits_eq (u:Nat):Lib.decDigits u=if u=0 then[48]else mI u:=by
 induction u using Nat.strongRecOn with
 |ind u ih=>
  rw[Lib.decDigits];split
  ·rename_i h;by_cases h0:u=0
   ·subst h0;rfl
   ·rw[if_neg h0,vL h0,show u/10=0 by omega,uS,jV h];rfl
  ·rename_i h;rw[ih (u/10) (by omega),if_neg (by omega),if_neg (by omega),vL (m:=u)]
def aGX (n:Int):Lib.itoa n=zF n:=by
 unfold Lib.itoa zF;by_cases h0:n=0
 ·subst h0;rw[if_neg (by omega),if_pos rfl,decDigits_eq];rfl
 ·rw[if_neg h0];by_cases hn:n<0
  ·rw[if_pos hn,if_pos hn,decDigits_eq,if_neg (by omega)];rfl
  ·rw[if_neg hn,if_neg hn,decDigits_eq,if_neg (by omega),show n.toNat=n.natAbs by omega];rfl
def YI:∀(l:Str) (acc n:Nat) (m:Nat),Lib.decFrom acc l=some n->Lib.decFrom acc (l++[UInt8.ofNat (48+m % 10)])=some (n*10+m % 10)
 |[],acc,n,m,h=>by
  obtain rfl:acc=n:=by simpa[Lib.decFrom]using h
  have hd:=(aeN m).2
  have hv:Lib.digitVal (UInt8.ofNat (48+m % 10))=some (m % 10):=by
   unfold Lib.digitVal;rw[hd,if_pos (by omega)];congr 1;omega
  simp only[iV,Lib.decFrom,hv]
 |c::l,acc,n,m,h=>by
  simp only[fZ,Lib.decFrom]at h|-
  cases hc:Lib.digitVal c with
  |none=>rw[hc]at h;cases h
  |some d=>rw[hc]at h;exact YI l _ n m h
def af4 (u:Nat):Lib.decFrom 0 (mI u)=some u:=by
 induction u using Nat.strongRecOn with
 |ind u ih=>
  by_cases h0:u=0
  ·subst h0;rw[uS];rfl
  ·rw[vL h0,YI _ _ _ u (ih (u/10) (by omega))];congr 1;omega
def VJ {u:Nat}(h:u≠0):Lib.decNat (mI u)=some u:=by
 unfold Lib.decNat;rw[if_neg (by simpa using akM h),af4]
def aAM (h: -999999999<=n/\n<=999999999):Lib.atoiAll (zF n)= .ok n:=by
 have hl:=OY n.natAbs 9 (by omega)
 have hlen:(zF n).length<=18:=by
  unfold zF;split
  ·simp
  ·rw[aR];split<;>simp<;>omega
 rw[Lib.atoiAll_short _ hlen]
 have:Lib.atoi (zF n)=some n:=by
  by_cases h0:n=0
  ·subst h0;rfl
  ·by_cases hn:n<0
   ·have hf:zF n=45::mI n.natAbs:=by rw[zF,if_neg h0,if_pos hn];rfl
    rw[hf,Lib.atoi,if_pos (by rfl),VJ (by omega),dA];congr 1;omega
   ·have hf:zF n=mI n.natAbs:=by rw[zF,if_neg h0,if_neg hn];rfl
    rw[hf];have hd:=VJ (u:=n.natAbs) (by omega);cases hx:mI n.natAbs with
    |nil=>exact absurd hx (akM (by omega))
    |cons c r=>
     have hc:=ahK n.natAbs c (by rw[hx];simp);have h1:¬(c==45)=true:=fun e=>absurd ((show c=45 by simpa using e)▸hc).1 (by decide);have h2:¬(c==43)=true:=fun e=>absurd ((show c=43 by simpa using e)▸hc).1 (by decide);rw[Lib.atoi,if_neg h1,if_neg h2,←hx,hd,dA];congr 1;omega
 rw[this];rfl
def iA:L1->L1->Int
 |[],[]=>0
 |[],_::_=> -1
 |_::_,[]=>1
 |a::x,b::y=>if a<b then -1 else if b<a then 1 else iA x y
def V7:∀{a b:L1},iA a b<=0->iA b a<=0->a=b
 |[],[],_,_=>rfl
 |[],_::_,_,h=>by simp[iA]at h
 |_::_,[],h,_=>by simp[iA]at h
 |a::x,b::y,h,h'=>by
  simp only[iA]at h h'
  have hab:a=b:=by
   split at h
   ·rename_i h1;rw[if_neg (by omega),if_pos h1]at h';omega
   ·split at h
    ·omega
    ·omega
  subst hab;rw[if_neg (by omega),if_neg (by omega)]at h h';rw[V7 h h']
def TQ:∀(a b:L1),iA a b<0↔0<iA b a
 |[],[]=>by simp[iA]
 |[],_::_=>by simp[iA]
 |_::_,[]=>by simp[iA]
 |a::x,b::y=>by
  have ih:=TQ x y;simp only[iA];by_cases h1:a<b
  ·rw[if_pos h1,if_neg (by omega),if_pos h1];omega
  ·by_cases h2:b<a
   ·rw[if_neg h1,if_pos h2,if_pos h2];omega
   ·rw[if_neg h1,if_neg h2,if_neg h2,if_neg h1];exact ih
def acF:∀{a b c:L1},iA a b<=0->iA b c<=0->iA a c<=0
 |[],_,[],_,_=>by simp[iA]
 |[],_,_::_,_,_=>by simp[iA]
 |_::_,[],_,h,_=>by simp[iA]at h
 |_::_,_::_,[],_,h=>by simp[iA]at h
 |a::x,b::y,c::z,h,h'=>by
  have ih:=acF (a:=x) (b:=y) (c:=z);simp only[iA]at h h'|-
  split at h<;>split at h'<;>split<;>(try omega)<;>(try split at h)<;>(try split at h')<;>(try split)<;>(try omega);all_goals exact ih (by omega) (by omega)
def ajP:∀(p x y:L1),iA (p++x) (p++y)=iA x y
 |[],_,_=>rfl
 |a::p,x,y=>by
  show(if a<a then(-1:Int)else if a<a then 1 else iA (p++x) (p++y))=_;rw[if_neg (Int.lt_irrefl a),if_neg (Int.lt_irrefl a)];exact ajP p x y
variable {a b:L1}{i:Nat}
def V8 (h:a.take i=b.take i):iA a b=iA (a.drop i) (b.drop i):=by
 have:=ajP (a.take i) (a.drop i) (b.drop i)
 rwa [dL,h,dL]at this
variable {c:Int}
def an9 {d:Int}(h:a.take i=b.take i)(hc:a[i]?=some c)(hd:b[i]?=some d)(hn:c≠d):iA a b=if c<d then -1 else 1:=by
 obtain⟨h1,rfl⟩:=aD.1 hc;obtain⟨h2,rfl⟩:=aD.1 hd;rw[V8 h,aW h1,aW h2];simp only[iA];split
 ·rfl
 ·rw[if_pos (by omega)]
def afT (h:a.take i=b.take i)(h1:i<a.length)(h2:b.length<=i):iA a b=1:=by
 rw[V8 h,aW h1,bX h2];rfl
def ajQ (h:a=b.take a.length):iA a b=if a.length<b.length then -1 else 0:=by
 rw[V8 (i:=a.length) (by rw[bS];exact h),bX (k_Nat_le_refl a.length)];cases hd:b.drop a.length with
 |nil=>rw[if_neg (by have:=rC (i:=a.length) (l:=b);rw[hd]at this;simp at this;omega)];rfl
 |cons x l=>rw[if_pos (by have:=rC (i:=a.length) (l:=b);rw[hd]at this;simp at this;omega)];rfl
def take_same (h:a.take i=b.take i)(hc:a[i]?=some c)(hd:b[i]?=some c):a.take (i+1)=b.take (i+1):=by
 rw[zQ,zQ,h,hc,hd]
def BM (l:L2):L2:=iD (fun v c=>decide (iA v c<0)) l
def xW (l:L2):(BM l).Perm l:=by
 have:=CV (fun v c:L1=>decide (iA v c<0)) l [];rwa [iV]at this
def ad9 {l:L2}(h:l.Pairwise fun a b=>iA a b<=0)(v:L1):(gN (fun c=>decide (iA v c<0)) l v).Pairwise fun a b=>iA a b<=0:=by
 obtain⟨h1,h2⟩:=afF (fun c=>decide (iA v c<0)) l;unfold gN;generalize l.length-backs (fun c=>decide (iA v c<0)) l=k at h1 h2|-
 have hl:∀x∈l.take k,iA x v<=0:=by
  intro x hx
  obtain⟨c,hc⟩:∃c,(l.take k).getLast?=some c:=by
   cases hg:(l.take k).getLast? with
   |some c=>exact⟨c,rfl⟩
   |none=>rw[List.getLast?_eq_none_iff]at hg;rw[hg]at hx;cases hx
  have h3:=h2 c hc;simp only[decide_eq_false_iff_not]at h3;have h4:iA c v<=0:=by have:=TQ v c;omega
  obtain⟨t,ht⟩:=pV.1 hc;have hs:(l.take k).Pairwise fun a b=>iA a b<=0:=h.sublist (tF _ _);rw[ht]at hx hs;rcases k_List_mem_append.1 hx with hx|hx
  ·exact acF ((gJ.1 hs).2.2 x hx c (by simp)) h4
  ·obtain rfl:x=c:=by simpa using hx
   exact h4
 have hr:∀x∈l.drop k,iA v x<=0:=by
  intro x hx;have h3:=h1 x hx;simp only[decide_eq_true_eq]at h3;omega
 rw[bP,lG];have hs:=h;rw[←List.take_append_drop k l]at hs;obtain⟨a1,a2,a3⟩:=gJ.1 hs;refine gJ.2 ⟨a1,dY.2 ⟨hr,a2⟩,fun x hx y hy=> ?_⟩;rcases aK.1 hy with rfl|hy
 ·exact hl x hx
 ·exact a3 x hx y hy
def ZV (l:L2):(BM l).Pairwise fun a b=>iA a b<=0:=by
 have key:∀(l t:L2),(t.Pairwise fun a b=>iA a b<=0)->(l.foldl (fun out v=>gN (fun c=>decide (iA v c<0)) out v) t).Pairwise fun a b=>iA a b<=0:=by
  intro l
  induction l with
  |nil=>exact fun t h=>h
  |cons v l ih=>exact fun t h=>ih _ (ad9 h v)
 exact key l [] List.Pairwise.nil
def aCB {a b:L2}(h:a.Perm b):BM a=BM b:=
 List.Perm.eq_of_pairwise (le:=fun u w=>iA u w<=0) (fun u w _ _=>V7) (ZV a) (ZV b) ((xW a).trans (h.trans (xW b).symm))
def ayC {a b:L2}:BM a=BM b↔a.Perm b:=
 ⟨fun h=>(xW a).symm.trans (h▸xW b),aCB⟩
def acZ:∀{a b:L2},a.Nodup->a.length=b.length->(∀x∈a,x∈b)->a.Perm b
 |[],b,_,hl,_=>by cases b<;>simp_all
 |x::a,b,hn,hl,hm=>by
  have hx:=hm x (by simp);have hp:=List.perm_cons_erase hx;rw[List.nodup_cons]at hn;refine List.Perm.trans (List.Perm.cons x (acZ hn.2 ?_ fun y hy=> ?_)) hp.symm
  ·rw[List.length_erase_of_mem hx];simp at hl;omega
  ·exact(List.mem_erase_of_ne (fun h:y=x=>hn.1 (by rw[←h];exact hy))).2 (hm y (by simp[hy]))
def arI {a b:L2}(hn:a.Nodup):BM a=BM b↔b.length=a.length/\∀x∈a,x∈b:=
 ayC.trans ⟨fun h=>⟨h.length_eq.symm,fun x hx=>h.mem_iff.1 hx⟩,fun h=>acZ hn h.1.symm h.2⟩
structure Ent where
 id:Int
 mem:L1
deriving instance DecidableEq,Inhabited for Ent
structure lM where
 cfg:Cfg
 sto:Sto
 ents:List Ent
 next:Int
 ref:List Ver
def SF (all g:L1)(i:Nat):Bool:=inR (at1 g i) 1 399&&(decide (i=0)||decide (at1 g (i-1)<at1 g i))&& !(all.any fun y=>decide (at1 g i=y))
def ag1 (all g:L1):Bool:=(List.range g.length).all (SF all g)&&decide (g.length≠0)
def DY:L1->L2->Bool
 |all,[]=>decide (all.length<=8)
 |all,g::G=>ag1 all g&&DY (all++g) G
def idB (e:Ent):Bool:=inR e.id 1 9999
def amH (a b:Ent):Bool:=decide (a.id<b.id)
def uT (l:List Ent):Bool:=l.all idB&&adj amH l&&DY [] (l.map Ent.mem)
def ag2:∀(G:L2) {all:L1},8<all.length->DY all G=false
 |[],all,h=>decide_eq_false (by omega)
 |g::G,all,h=>by rw[DY,ag2 G (by rw[aR];omega),Bool.and_false]
def aB9 {all g:L1}(h:ag1 all g=true):g≠[]/\∀x∈g,x∉all:=by
 simp only[ag1,k_Bool_and_eq_true,aH,bB,decide_eq_true_eq]at h;refine⟨fun e=>h.2 (by rw[e];rfl),fun x hx hxa=> ?_⟩;obtain⟨i,hi⟩:=dF hx;have h1:=h.1 i (dH hi);simp only[SF,aa5 hi,k_Bool_and_eq_true,gF]at h1;have:=gX.1 h1.2 x hxa;simp at this
def apA:∀{G:L2}{all:L1},DY all G=true->G.Nodup/\(∀g∈G,g≠[]/\∀x∈g,x∉all)/\all.length+G.length<=8
 |[],all,h=>⟨List.nodup_nil,by simp,by simpa[DY]using h⟩
 |g::G,all,h=>by
  rw[DY,k_Bool_and_eq_true]at h;obtain⟨h1,h2,h3⟩:=apA h.2;obtain⟨h4,h5⟩:=aB9 h.1;refine⟨List.nodup_cons.2 ⟨fun hg=> ?_,h1⟩,fun k hk=> ?_,?_⟩
  ·obtain⟨x,hx⟩:=List.exists_mem_of_ne_nil g h4;exact(h2 g hg).2 x hx (by simp[hx])
  ·rcases aK.1 hk with rfl|hk
   ·exact⟨h4,h5⟩
   ·exact⟨(h2 k hk).1,fun x hx hxa=>(h2 k hk).2 x hx (by simp[hxa])⟩
  ·have:=kM.2 h4;rw[aR]at h3;simp only[k_List_length_cons];omega
def xP {l:List Ent}(h:uT l=true):(l.map Ent.mem).Nodup/\l.length<=8:=by
 simp only[uT,k_Bool_and_eq_true]at h;obtain⟨h1,_,h3⟩:=apA h.2;exact⟨h1,by simpa using h3⟩
def afU:∀a:L1,iA a a=0
 |[]=>rfl
 |a::x=>by rw[iA,if_neg (by omega),if_neg (by omega),afU x]
def asN :iA a b=0↔a=b:=
 ⟨fun h=>V7 (by omega) (by have:=TQ b a;have:=TQ a b;omega),fun h=>by rw[h,afU]⟩
def aC2 (g:L2)(e:Ent):Bool:=g.any fun y=>decide (y=e.mem)
def entOk (g:L2)(n:Int)(e:Ent):Bool:=aC2 g e&&decide (e.id<n)
def aE3 {E:List Ent}(g:L2)(n:Int)(h:uT E=true):(decide (g.length=E.length)&&E.all (entOk g n))=(!(E.any fun e=>decide (n<=e.id))&&decide (BM (E.map Ent.mem)=BM g)):=by
 rw[bM];simp only[k_Bool_and_eq_true,decide_eq_true_eq,gF,gX,aH,entOk,aC2,cZ,arI (xP h).1,aQ,dG];constructor
 ·rintro⟨h1,h2⟩;exact⟨fun e he=>by have:=(h2 e he).2;omega,h1,by rintro _ ⟨e,he,rfl⟩;obtain⟨y,hy,rfl⟩:=(h2 e he).1;exact hy⟩
 ·rintro⟨h1,h2,h3⟩;exact⟨h2,fun e he=>⟨⟨_,h3 _ ⟨e,he,rfl⟩,rfl⟩,by have:=h1 e he;omega⟩⟩
end Go.Pl
end
