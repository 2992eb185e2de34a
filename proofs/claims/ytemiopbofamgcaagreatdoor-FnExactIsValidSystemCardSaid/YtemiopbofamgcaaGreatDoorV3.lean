/- Lemmas and walks that the law leans on, part 3. No condition. -/
import Derived.Test.YtemiopbofamgcaaGreatDoorProg
import Derived.Lib.LaidTab
import Derived.Lib.ItoaNum
import Derived.Shelf.Strconv.Itoa3
import Derived.ChangeArms
import Derived.ChangeShapes
import Derived.Lib.SlicesCompact
import Derived.Sort.Walk0
import Derived.Test.YtemiopbofamgcaaGreatDoorV2
set_option linter.unusedVariables false
set_option linter.unusedSimpArgs false
set_option linter.unusedSectionVars false
set_option maxRecDepth 10000
set_option maxHeartbeats 1000000
section
namespace Go.Proofs.YtemiopbofamgcaaGreatDoor
open Go.Dv Go.Proofs.Tryz
def F4:L1:=[0,1,2,3,0,1,2, -1,0,2,2,4,5,5,0,1,2,6,2,3,0,1, -1,2,0,2]
def uB (w:World):Prop:=Lib.TabIs prog w "internal/strconv.uint64pow10" .u64 Lib.pow10Tab/\(∃tp p,w.var? prog "strconv.ErrSyntax" =some #[.iface tp p])/\(∃tp p,w.var? prog "strconv.ErrRange" =some #[.iface tp p])/\(∃m,w.cell? ⟨1,0,none⟩=some (.int .i64 m))/\w.var? prog "loop.example/g01923/impl.soundCodes" =some (F4.map fun k=>Value.int .i64 k).toArray
instance:fH:=⟨fun gl=>∀w:World,(∀p∈gl,w.heap[p.1]?=some p.2)->uB w⟩
theorem D9 {w:World}{ow:Own}(h:Laid w ow):uB w:=by
 obtain⟨gl,h1,h2⟩:=h;exact h1 w fun p hp=>(h2 p hp).1
def T:TypeId->TyE:=asQ [(1000072,0),(1000133,0),(1000138,0),(1000152,1000),(1000156,0),(1000200,0),(1000204,0),(1000232,0),(1000258,0),(1000265,0),(1000279,999),(1000281,999),(1000282,999),(1000334,999),(1000351,0)] [(3,⟨.int .i64,1,.one (.int .i64 0)⟩),
 (4,⟨.bool,1,.one (.bool false)⟩),
 (5,⟨.int .u8,1,.one (.int .u8 0)⟩),
 (9,⟨.str,1,.one (.string {data:= #[]})⟩),
 (22,⟨.sl 187,1,.sl (some 187) []⟩),
 (24,⟨.agg [(0,22)],1,.agg [.sl (some 187) []]⟩),
 (25,⟨.sl 3,1,.sl (some 3) []⟩),
 (27,⟨.agg [(0,25),(1,3)],2,.agg [.sl (some 3) [],.one (.int .i64 0)]⟩),
 (29,⟨.agg [(0,24),(1,27),(3,25)],4,.agg [.agg [.sl (some 187) []],.agg [.sl (some 3) [],.one (.int .i64 0)],.sl (some 3) []]⟩),
 (30,⟨.sl 132,1,.sl (some 132) []⟩),
 (31,⟨.sl 110,1,.sl (some 110) []⟩),
 (33,⟨.agg [(0,3),(1,30),(2,31)],3,.agg [.one (.int .i64 0),.sl (some 132) [],.sl (some 110) []]⟩),
 (34,⟨.sl 90,1,.sl (some 90) []⟩),
 (36,⟨.agg [(0,29),(4,33),(7,34),(8,3),(9,31)],10,.agg [.agg [.agg [.sl (some 187) []],.agg [.sl (some 3) [],.one (.int .i64 0)],.sl (some 3) []],.agg [.one (.int .i64 0),.sl (some 132) [],.sl (some 110) []],.sl (some 90) [],.one (.int .i64 0),.sl (some 110) []]⟩),
 (39,⟨.sl 163,1,.sl (some 163) []⟩),
 (41,⟨.agg [(0,39)],1,.agg [.sl (some 163) []]⟩),
 (42,⟨.agg [(0,25),(1,3)],2,.agg [.sl (some 3) [],.one (.int .i64 0)]⟩),
 (44,⟨.agg [(0,41),(1,42),(3,25)],4,.agg [.agg [.sl (some 163) []],.agg [.sl (some 3) [],.one (.int .i64 0)],.sl (some 3) []]⟩),
 (45,⟨.sl 116,1,.sl (some 116) []⟩),
 (46,⟨.sl 65,1,.sl (some 65) []⟩),
 (48,⟨.agg [(0,3),(1,45),(2,46)],3,.agg [.one (.int .i64 0),.sl (some 116) [],.sl (some 65) []]⟩),
 (49,⟨.sl 68,1,.sl (some 68) []⟩),
 (51,⟨.agg [(0,44),(4,48),(7,49),(8,3),(9,46)],10,.agg [.agg [.agg [.sl (some 163) []],.agg [.sl (some 3) [],.one (.int .i64 0)],.sl (some 3) []],.agg [.one (.int .i64 0),.sl (some 116) [],.sl (some 65) []],.sl (some 68) [],.one (.int .i64 0),.sl (some 65) []]⟩),
 (59,⟨.sl 25,1,.sl (some 25) []⟩),
 (65,⟨.agg [(0,3),(1,3),(2,4),(3,3)],4,.agg [.one (.int .i64 0),.one (.int .i64 0),.one (.bool false),.one (.int .i64 0)]⟩),
 (68,⟨.agg [(0,3),(1,25)],2,.agg [.one (.int .i64 0),.sl (some 3) []]⟩),
 (90,⟨.agg [(0,3),(1,25)],2,.agg [.one (.int .i64 0),.sl (some 3) []]⟩),
 (95,⟨.sl 143,1,.sl (some 143) []⟩),
 (98,⟨.agg [(0,25),(1,3),(2,4),(3,3)],4,.agg [.sl (some 3) [],.one (.int .i64 0),.one (.bool false),.one (.int .i64 0)]⟩),
 (110,⟨.agg [(0,3),(1,3),(2,4),(3,3)],4,.agg [.one (.int .i64 0),.one (.int .i64 0),.one (.bool false),.one (.int .i64 0)]⟩),
 (114,⟨.sl 9,1,.sl (some 9) []⟩),
 (116,⟨.agg [(0,3),(1,3),(2,3),(3,114)],4,.agg [.one (.int .i64 0),.one (.int .i64 0),.one (.int .i64 0),.sl (some 9) []]⟩),
 (132,⟨.agg [(0,3),(1,3),(2,3),(3,114)],4,.agg [.one (.int .i64 0),.one (.int .i64 0),.one (.int .i64 0),.sl (some 9) []]⟩),
 (143,⟨.agg [(0,3),(1,3),(2,4)],3,.agg [.one (.int .i64 0),.one (.int .i64 0),.one (.bool false)]⟩),
 (157,⟨.sl 217,1,.sl (some 217) []⟩),
 (161,⟨.sl 165,1,.sl (some 165) []⟩),
 (163,⟨.agg [(0,161)],1,.agg [.sl (some 165) []]⟩),
 (165,⟨.agg [(0,3),(1,3),(2,4)],3,.agg [.one (.int .i64 0),.one (.int .i64 0),.one (.bool false)]⟩),
 (177,⟨.arr 400 3,400,.agg (List.replicate 400 (.one (.int .i64 0)))⟩),
 (181,⟨.int .u64,1,.one (.int .u64 0)⟩),
 (185,⟨.sl 292,1,.sl (some 292) []⟩),
 (187,⟨.agg [(0,185)],1,.agg [.sl (some 292) []]⟩),
 (201,⟨.agg [(0,59),(1,95),(2,25),(3,3),(4,3)],5,.agg [.sl (some 25) [],.sl (some 143) [],.sl (some 3) [],.one (.int .i64 0),.one (.int .i64 0)]⟩),
 (205,⟨.sl 207,1,.sl (some 207) []⟩),
 (207,⟨.sl 4,1,.sl (some 4) []⟩),
 (210,⟨.agg [(0,3),(1,3),(2,3)],3,.agg [.one (.int .i64 0),.one (.int .i64 0),.one (.int .i64 0)]⟩),
 (217,⟨.agg [(0,3),(1,3),(2,3),(3,3)],4,.agg [.one (.int .i64 0),.one (.int .i64 0),.one (.int .i64 0),.one (.int .i64 0)]⟩),
 (232,⟨.arr 2 3,2,.agg (List.replicate 2 (.one (.int .i64 0)))⟩),
 (233,⟨.arr 3 232,6,.agg (List.replicate 3 (.agg (List.replicate 2 (.one (.int .i64 0)))))⟩),
 (238,⟨.int .i64,1,.one (.int .i64 0)⟩),
 (272,⟨.fn,1,.one .nilFunc⟩),
 (275,⟨.fn,1,.one .nilFunc⟩),
 (287,⟨.sl 5,1,.sl (some 5) []⟩),
 (292,⟨.agg [(0,3),(1,3),(2,4)],3,.agg [.one (.int .i64 0),.one (.int .i64 0),.one (.bool false)]⟩),
 (302,⟨.fn,1,.one .nilFunc⟩),
 (337,⟨.ifc,1,.one .nilIface⟩)]
set_option maxRecDepth 10000 in
theorem good:∀t,Dv.Good prog T t:=anC
 ⟨⟨underlying3,t3,_,type3,rfl,rfl,rfl,rfl,by simp[Ty.isAgg],by decide,rfl⟩,
 ⟨underlying4,t4,_,type4,rfl,rfl,rfl,rfl,by simp[Ty.isAgg],by decide,rfl⟩,
 ⟨underlying5,t5,_,type5,rfl,rfl,rfl,rfl,by simp[Ty.isAgg],by decide,rfl⟩,
 ⟨underlying9,t9,_,type9,rfl,rfl,rfl,rfl,by simp[Ty.isAgg],by decide,rfl⟩,
 ⟨underlying22,t22,_,type22,rfl,rfl,rfl,rfl,by simp[Ty.isAgg],by decide,rfl⟩,
 ⟨⟨_,underlying24,rfl,gF.mem ⟨⟨by decide,t22,type22,by decide⟩,trivial⟩,stoodInHeld24⟩,t24,_,type24,rfl,rfl,rfl,rfl,by simp[Ty.isAgg],by decide,rfl⟩,
 ⟨underlying25,t25,_,type25,rfl,rfl,rfl,rfl,by simp[Ty.isAgg],by decide,rfl⟩,
 ⟨⟨_,underlying27,rfl,gF.mem ⟨⟨by decide,t25,type25,by decide⟩,⟨by decide,t3,type3,by decide⟩,trivial⟩,stoodInHeld27⟩,t27,_,type27,rfl,rfl,rfl,rfl,by simp[Ty.isAgg],by decide,rfl⟩,
 ⟨⟨_,underlying29,rfl,gF.mem ⟨⟨by decide,t24,type24,by decide⟩,⟨by decide,t27,type27,by decide⟩,⟨by decide,t25,type25,by decide⟩,trivial⟩,stoodInHeld29⟩,t29,_,type29,rfl,rfl,rfl,rfl,by simp[Ty.isAgg],by decide,rfl⟩,
 ⟨underlying30,t30,_,type30,rfl,rfl,rfl,rfl,by simp[Ty.isAgg],by decide,rfl⟩,
 ⟨underlying31,t31,_,type31,rfl,rfl,rfl,rfl,by simp[Ty.isAgg],by decide,rfl⟩,
 ⟨⟨_,underlying33,rfl,gF.mem ⟨⟨by decide,t3,type3,by decide⟩,⟨by decide,t30,type30,by decide⟩,⟨by decide,t31,type31,by decide⟩,trivial⟩,stoodInHeld33⟩,t33,_,type33,rfl,rfl,rfl,rfl,by simp[Ty.isAgg],by decide,rfl⟩,
 ⟨underlying34,t34,_,type34,rfl,rfl,rfl,rfl,by simp[Ty.isAgg],by decide,rfl⟩,
 ⟨⟨_,underlying36,rfl,gF.mem ⟨⟨by decide,t29,type29,by decide⟩,⟨by decide,t33,type33,by decide⟩,⟨by decide,t34,type34,by decide⟩,⟨by decide,t3,type3,by decide⟩,⟨by decide,t31,type31,by decide⟩,trivial⟩,stoodInHeld36⟩,t36,_,type36,rfl,rfl,rfl,rfl,by simp[Ty.isAgg],by decide,rfl⟩,
 ⟨underlying39,t39,_,type39,rfl,rfl,rfl,rfl,by simp[Ty.isAgg],by decide,rfl⟩,
 ⟨⟨_,underlying41,rfl,gF.mem ⟨⟨by decide,t39,type39,by decide⟩,trivial⟩,stoodInHeld41⟩,t41,_,type41,rfl,rfl,rfl,rfl,by simp[Ty.isAgg],by decide,rfl⟩,
 ⟨⟨_,underlying42,rfl,gF.mem ⟨⟨by decide,t25,type25,by decide⟩,⟨by decide,t3,type3,by decide⟩,trivial⟩,stoodInHeld42⟩,t42,_,type42,rfl,rfl,rfl,rfl,by simp[Ty.isAgg],by decide,rfl⟩,
 ⟨⟨_,underlying44,rfl,gF.mem ⟨⟨by decide,t41,type41,by decide⟩,⟨by decide,t42,type42,by decide⟩,⟨by decide,t25,type25,by decide⟩,trivial⟩,stoodInHeld44⟩,t44,_,type44,rfl,rfl,rfl,rfl,by simp[Ty.isAgg],by decide,rfl⟩,
 ⟨underlying45,t45,_,type45,rfl,rfl,rfl,rfl,by simp[Ty.isAgg],by decide,rfl⟩,
 ⟨underlying46,t46,_,type46,rfl,rfl,rfl,rfl,by simp[Ty.isAgg],by decide,rfl⟩,
 ⟨⟨_,underlying48,rfl,gF.mem ⟨⟨by decide,t3,type3,by decide⟩,⟨by decide,t45,type45,by decide⟩,⟨by decide,t46,type46,by decide⟩,trivial⟩,stoodInHeld48⟩,t48,_,type48,rfl,rfl,rfl,rfl,by simp[Ty.isAgg],by decide,rfl⟩,
 ⟨underlying49,t49,_,type49,rfl,rfl,rfl,rfl,by simp[Ty.isAgg],by decide,rfl⟩,
 ⟨⟨_,underlying51,rfl,gF.mem ⟨⟨by decide,t44,type44,by decide⟩,⟨by decide,t48,type48,by decide⟩,⟨by decide,t49,type49,by decide⟩,⟨by decide,t3,type3,by decide⟩,⟨by decide,t46,type46,by decide⟩,trivial⟩,stoodInHeld51⟩,t51,_,type51,rfl,rfl,rfl,rfl,by simp[Ty.isAgg],by decide,rfl⟩,
 ⟨underlying59,t59,_,type59,rfl,rfl,rfl,rfl,by simp[Ty.isAgg],by decide,rfl⟩,
 ⟨⟨_,underlying65,rfl,gF.mem ⟨⟨by decide,t3,type3,by decide⟩,⟨by decide,t3,type3,by decide⟩,⟨by decide,t4,type4,by decide⟩,⟨by decide,t3,type3,by decide⟩,trivial⟩,stoodInHeld65⟩,t65,_,type65,rfl,rfl,rfl,rfl,by simp[Ty.isAgg],by decide,rfl⟩,
 ⟨⟨_,underlying68,rfl,gF.mem ⟨⟨by decide,t3,type3,by decide⟩,⟨by decide,t25,type25,by decide⟩,trivial⟩,stoodInHeld68⟩,t68,_,type68,rfl,rfl,rfl,rfl,by simp[Ty.isAgg],by decide,rfl⟩,
 ⟨⟨_,underlying90,rfl,gF.mem ⟨⟨by decide,t3,type3,by decide⟩,⟨by decide,t25,type25,by decide⟩,trivial⟩,stoodInHeld90⟩,t90,_,type90,rfl,rfl,rfl,rfl,by simp[Ty.isAgg],by decide,rfl⟩,
 ⟨underlying95,t95,_,type95,rfl,rfl,rfl,rfl,by simp[Ty.isAgg],by decide,rfl⟩,
 ⟨⟨_,underlying98,rfl,gF.mem ⟨⟨by decide,t25,type25,by decide⟩,⟨by decide,t3,type3,by decide⟩,⟨by decide,t4,type4,by decide⟩,⟨by decide,t3,type3,by decide⟩,trivial⟩,stoodInHeld98⟩,t98,_,type98,rfl,rfl,rfl,rfl,by simp[Ty.isAgg],by decide,rfl⟩,
 ⟨⟨_,underlying110,rfl,gF.mem ⟨⟨by decide,t3,type3,by decide⟩,⟨by decide,t3,type3,by decide⟩,⟨by decide,t4,type4,by decide⟩,⟨by decide,t3,type3,by decide⟩,trivial⟩,stoodInHeld110⟩,t110,_,type110,rfl,rfl,rfl,rfl,by simp[Ty.isAgg],by decide,rfl⟩,
 ⟨underlying114,t114,_,type114,rfl,rfl,rfl,rfl,by simp[Ty.isAgg],by decide,rfl⟩,
 ⟨⟨_,underlying116,rfl,gF.mem ⟨⟨by decide,t3,type3,by decide⟩,⟨by decide,t3,type3,by decide⟩,⟨by decide,t3,type3,by decide⟩,⟨by decide,t114,type114,by decide⟩,trivial⟩,stoodInHeld116⟩,t116,_,type116,rfl,rfl,rfl,rfl,by simp[Ty.isAgg],by decide,rfl⟩,
 ⟨⟨_,underlying132,rfl,gF.mem ⟨⟨by decide,t3,type3,by decide⟩,⟨by decide,t3,type3,by decide⟩,⟨by decide,t3,type3,by decide⟩,⟨by decide,t114,type114,by decide⟩,trivial⟩,stoodInHeld132⟩,t132,_,type132,rfl,rfl,rfl,rfl,by simp[Ty.isAgg],by decide,rfl⟩,
 ⟨⟨_,underlying143,rfl,gF.mem ⟨⟨by decide,t3,type3,by decide⟩,⟨by decide,t3,type3,by decide⟩,⟨by decide,t4,type4,by decide⟩,trivial⟩,stoodInHeld143⟩,t143,_,type143,rfl,rfl,rfl,rfl,by simp[Ty.isAgg],by decide,rfl⟩,
 ⟨underlying157,t157,_,type157,rfl,rfl,rfl,rfl,by simp[Ty.isAgg],by decide,rfl⟩,
 ⟨underlying161,t161,_,type161,rfl,rfl,rfl,rfl,by simp[Ty.isAgg],by decide,rfl⟩,
 ⟨⟨_,underlying163,rfl,gF.mem ⟨⟨by decide,t161,type161,by decide⟩,trivial⟩,stoodInHeld163⟩,t163,_,type163,rfl,rfl,rfl,rfl,by simp[Ty.isAgg],by decide,rfl⟩,
 ⟨⟨_,underlying165,rfl,gF.mem ⟨⟨by decide,t3,type3,by decide⟩,⟨by decide,t3,type3,by decide⟩,⟨by decide,t4,type4,by decide⟩,trivial⟩,stoodInHeld165⟩,t165,_,type165,rfl,rfl,rfl,rfl,by simp[Ty.isAgg],by decide,rfl⟩,
 ⟨underlying177,t177,_,type177,rfl,rfl,rfl,rfl,by simp[Ty.isAgg],by decide,rfl⟩,
 ⟨underlying181,t181,_,type181,rfl,rfl,rfl,rfl,by simp[Ty.isAgg],by decide,rfl⟩,
 ⟨underlying185,t185,_,type185,rfl,rfl,rfl,rfl,by simp[Ty.isAgg],by decide,rfl⟩,
 ⟨⟨_,underlying187,rfl,gF.mem ⟨⟨by decide,t185,type185,by decide⟩,trivial⟩,stoodInHeld187⟩,t187,_,type187,rfl,rfl,rfl,rfl,by simp[Ty.isAgg],by decide,rfl⟩,
 ⟨⟨_,underlying201,rfl,gF.mem ⟨⟨by decide,t59,type59,by decide⟩,⟨by decide,t95,type95,by decide⟩,⟨by decide,t25,type25,by decide⟩,⟨by decide,t3,type3,by decide⟩,⟨by decide,t3,type3,by decide⟩,trivial⟩,stoodInHeld201⟩,t201,_,type201,rfl,rfl,rfl,rfl,by simp[Ty.isAgg],by decide,rfl⟩,
 ⟨underlying205,t205,_,type205,rfl,rfl,rfl,rfl,by simp[Ty.isAgg],by decide,rfl⟩,
 ⟨underlying207,t207,_,type207,rfl,rfl,rfl,rfl,by simp[Ty.isAgg],by decide,rfl⟩,
 ⟨⟨_,underlying210,rfl,gF.mem ⟨⟨by decide,t3,type3,by decide⟩,⟨by decide,t3,type3,by decide⟩,⟨by decide,t3,type3,by decide⟩,trivial⟩,stoodInHeld210⟩,t210,_,type210,rfl,rfl,rfl,rfl,by simp[Ty.isAgg],by decide,rfl⟩,
 ⟨⟨_,underlying217,rfl,gF.mem ⟨⟨by decide,t3,type3,by decide⟩,⟨by decide,t3,type3,by decide⟩,⟨by decide,t3,type3,by decide⟩,⟨by decide,t3,type3,by decide⟩,trivial⟩,stoodInHeld217⟩,t217,_,type217,rfl,rfl,rfl,rfl,by simp[Ty.isAgg],by decide,rfl⟩,
 ⟨underlying232,t232,_,type232,rfl,rfl,rfl,rfl,by simp[Ty.isAgg],by decide,rfl⟩,
 ⟨underlying233,t233,_,type233,rfl,rfl,rfl,rfl,by simp[Ty.isAgg],by decide,rfl⟩,
 ⟨underlying238,t238,_,type238,rfl,rfl,rfl,rfl,by simp[Ty.isAgg],by decide,rfl⟩,
 ⟨⟨_,_,_,underlying272⟩,t272,_,type272,rfl,rfl,rfl,rfl,by simp[Ty.isAgg],by decide,rfl⟩,
 ⟨⟨_,_,_,underlying275⟩,t275,_,type275,rfl,rfl,rfl,rfl,by simp[Ty.isAgg],by decide,rfl⟩,
 ⟨underlying287,t287,_,type287,rfl,rfl,rfl,rfl,by simp[Ty.isAgg],by decide,rfl⟩,
 ⟨⟨_,underlying292,rfl,gF.mem ⟨⟨by decide,t3,type3,by decide⟩,⟨by decide,t3,type3,by decide⟩,⟨by decide,t4,type4,by decide⟩,trivial⟩,stoodInHeld292⟩,t292,_,type292,rfl,rfl,rfl,rfl,by simp[Ty.isAgg],by decide,rfl⟩,
 ⟨⟨_,_,_,underlying302⟩,t302,_,type302,rfl,rfl,rfl,rfl,by simp[Ty.isAgg],by decide,rfl⟩,
 ⟨⟨_,underlying337⟩,t337,_,type337,rfl,rfl,rfl,rfl,by simp[Ty.isAgg],by decide,rfl⟩,
 trivial⟩
@[go_sem] theorem T3:T 3=⟨.int .i64,1,.one (.int .i64 0)⟩:=rfl
@[go_sem] theorem T4:T 4=⟨.bool,1,.one (.bool false)⟩:=rfl
@[go_sem] theorem T5:T 5=⟨.int .u8,1,.one (.int .u8 0)⟩:=rfl
@[go_sem] theorem T9:T 9=⟨.str,1,.one (.string {data:= #[]})⟩:=rfl
@[go_sem] theorem T22:T 22=⟨.sl 187,1,.sl (some 187) []⟩:=rfl
@[go_sem] theorem T24:T 24=⟨.agg [(0,22)],1,.agg [.sl (some 187) []]⟩:=rfl
@[go_sem] theorem T25:T 25=⟨.sl 3,1,.sl (some 3) []⟩:=rfl
@[go_sem] theorem T27:T 27=⟨.agg [(0,25),(1,3)],2,.agg [.sl (some 3) [],.one (.int .i64 0)]⟩:=rfl
@[go_sem] theorem T29:T 29=⟨.agg [(0,24),(1,27),(3,25)],4,.agg [.agg [.sl (some 187) []],.agg [.sl (some 3) [],.one (.int .i64 0)],.sl (some 3) []]⟩:=rfl
@[go_sem] theorem T30:T 30=⟨.sl 132,1,.sl (some 132) []⟩:=rfl
@[go_sem] theorem T31:T 31=⟨.sl 110,1,.sl (some 110) []⟩:=rfl
@[go_sem] theorem T33:T 33=⟨.agg [(0,3),(1,30),(2,31)],3,.agg [.one (.int .i64 0),.sl (some 132) [],.sl (some 110) []]⟩:=rfl
@[go_sem] theorem T34:T 34=⟨.sl 90,1,.sl (some 90) []⟩:=rfl
@[go_sem] theorem T36:T 36=⟨.agg [(0,29),(4,33),(7,34),(8,3),(9,31)],10,.agg [.agg [.agg [.sl (some 187) []],.agg [.sl (some 3) [],.one (.int .i64 0)],.sl (some 3) []],.agg [.one (.int .i64 0),.sl (some 132) [],.sl (some 110) []],.sl (some 90) [],.one (.int .i64 0),.sl (some 110) []]⟩:=rfl
@[go_sem] theorem T39:T 39=⟨.sl 163,1,.sl (some 163) []⟩:=rfl
@[go_sem] theorem T41:T 41=⟨.agg [(0,39)],1,.agg [.sl (some 163) []]⟩:=rfl
@[go_sem] theorem T42:T 42=⟨.agg [(0,25),(1,3)],2,.agg [.sl (some 3) [],.one (.int .i64 0)]⟩:=rfl
@[go_sem] theorem T44:T 44=⟨.agg [(0,41),(1,42),(3,25)],4,.agg [.agg [.sl (some 163) []],.agg [.sl (some 3) [],.one (.int .i64 0)],.sl (some 3) []]⟩:=rfl
@[go_sem] theorem T45:T 45=⟨.sl 116,1,.sl (some 116) []⟩:=rfl
@[go_sem] theorem T46:T 46=⟨.sl 65,1,.sl (some 65) []⟩:=rfl
@[go_sem] theorem T48:T 48=⟨.agg [(0,3),(1,45),(2,46)],3,.agg [.one (.int .i64 0),.sl (some 116) [],.sl (some 65) []]⟩:=rfl
@[go_sem] theorem T49:T 49=⟨.sl 68,1,.sl (some 68) []⟩:=rfl
@[go_sem] theorem T51:T 51=⟨.agg [(0,44),(4,48),(7,49),(8,3),(9,46)],10,.agg [.agg [.agg [.sl (some 163) []],.agg [.sl (some 3) [],.one (.int .i64 0)],.sl (some 3) []],.agg [.one (.int .i64 0),.sl (some 116) [],.sl (some 65) []],.sl (some 68) [],.one (.int .i64 0),.sl (some 65) []]⟩:=rfl
@[go_sem] theorem T59:T 59=⟨.sl 25,1,.sl (some 25) []⟩:=rfl
@[go_sem] theorem T65:T 65=⟨.agg [(0,3),(1,3),(2,4),(3,3)],4,.agg [.one (.int .i64 0),.one (.int .i64 0),.one (.bool false),.one (.int .i64 0)]⟩:=rfl
@[go_sem] theorem T68:T 68=⟨.agg [(0,3),(1,25)],2,.agg [.one (.int .i64 0),.sl (some 3) []]⟩:=rfl
@[go_sem] theorem T90:T 90=⟨.agg [(0,3),(1,25)],2,.agg [.one (.int .i64 0),.sl (some 3) []]⟩:=rfl
@[go_sem] theorem T95:T 95=⟨.sl 143,1,.sl (some 143) []⟩:=rfl
@[go_sem] theorem T98:T 98=⟨.agg [(0,25),(1,3),(2,4),(3,3)],4,.agg [.sl (some 3) [],.one (.int .i64 0),.one (.bool false),.one (.int .i64 0)]⟩:=rfl
@[go_sem] theorem aFP:T 110=⟨.agg [(0,3),(1,3),(2,4),(3,3)],4,.agg [.one (.int .i64 0),.one (.int .i64 0),.one (.bool false),.one (.int .i64 0)]⟩:=rfl
@[go_sem] theorem aFM:T 114=⟨.sl 9,1,.sl (some 9) []⟩:=rfl
@[go_sem] theorem aFI:T 116=⟨.agg [(0,3),(1,3),(2,3),(3,114)],4,.agg [.one (.int .i64 0),.one (.int .i64 0),.one (.int .i64 0),.sl (some 9) []]⟩:=rfl
@[go_sem] theorem aFW:T 132=⟨.agg [(0,3),(1,3),(2,3),(3,114)],4,.agg [.one (.int .i64 0),.one (.int .i64 0),.one (.int .i64 0),.sl (some 9) []]⟩:=rfl
@[go_sem] theorem aF4:T 143=⟨.agg [(0,3),(1,3),(2,4)],3,.agg [.one (.int .i64 0),.one (.int .i64 0),.one (.bool false)]⟩:=rfl
@[go_sem] theorem aF5:T 157=⟨.sl 217,1,.sl (some 217) []⟩:=rfl
@[go_sem] theorem aFZ:T 161=⟨.sl 165,1,.sl (some 165) []⟩:=rfl
@[go_sem] theorem aFO:T 163=⟨.agg [(0,161)],1,.agg [.sl (some 165) []]⟩:=rfl
@[go_sem] theorem aF1:T 165=⟨.agg [(0,3),(1,3),(2,4)],3,.agg [.one (.int .i64 0),.one (.int .i64 0),.one (.bool false)]⟩:=rfl
@[go_sem] theorem aF3:T 177=⟨.arr 400 3,400,.agg (List.replicate 400 (.one (.int .i64 0)))⟩:=rfl
@[go_sem] theorem aFH:T 181=⟨.int .u64,1,.one (.int .u64 0)⟩:=rfl
@[go_sem] theorem aFS:T 185=⟨.sl 292,1,.sl (some 292) []⟩:=rfl
@[go_sem] theorem aFV:T 187=⟨.agg [(0,185)],1,.agg [.sl (some 292) []]⟩:=rfl
@[go_sem] theorem aF7:T 201=⟨.agg [(0,59),(1,95),(2,25),(3,3),(4,3)],5,.agg [.sl (some 25) [],.sl (some 143) [],.sl (some 3) [],.one (.int .i64 0),.one (.int .i64 0)]⟩:=rfl
@[go_sem] theorem aFX:T 205=⟨.sl 207,1,.sl (some 207) []⟩:=rfl
@[go_sem] theorem aFK:T 207=⟨.sl 4,1,.sl (some 4) []⟩:=rfl
@[go_sem] theorem aFR:T 210=⟨.agg [(0,3),(1,3),(2,3)],3,.agg [.one (.int .i64 0),.one (.int .i64 0),.one (.int .i64 0)]⟩:=rfl
@[go_sem] theorem aFJ:T 217=⟨.agg [(0,3),(1,3),(2,3),(3,3)],4,.agg [.one (.int .i64 0),.one (.int .i64 0),.one (.int .i64 0),.one (.int .i64 0)]⟩:=rfl
@[go_sem] theorem aF0:T 232=⟨.arr 2 3,2,.agg (List.replicate 2 (.one (.int .i64 0)))⟩:=rfl
@[go_sem] theorem aF2:T 233=⟨.arr 3 232,6,.agg (List.replicate 3 (.agg (List.replicate 2 (.one (.int .i64 0)))))⟩:=rfl
@[go_sem] theorem aFL:T 238=⟨.int .i64,1,.one (.int .i64 0)⟩:=rfl
@[go_sem] theorem aFN:T 272=⟨.fn,1,.one .nilFunc⟩:=rfl
@[go_sem] theorem aFG:T 275=⟨.fn,1,.one .nilFunc⟩:=rfl
@[go_sem] theorem aFY:T 287=⟨.sl 5,1,.sl (some 5) []⟩:=rfl
@[go_sem] theorem aFU:T 292=⟨.agg [(0,3),(1,3),(2,4)],3,.agg [.one (.int .i64 0),.one (.int .i64 0),.one (.bool false)]⟩:=rfl
@[go_sem] theorem aFQ:T 302=⟨.fn,1,.one .nilFunc⟩:=rfl
@[go_sem] theorem aF6:T 337=⟨.ifc,1,.one .nilIface⟩:=rfl
def EL (P:Program):List Nat->Prop
 |[]=>True
 |f::l=>Dv.Enters P f/\EL P l
variable {f:Nat}
theorem EL.get {P:Program}:∀{l:List Nat},EL P l->f∈l->Dv.Enters P f
 |[],_,h=>by cases h
 |g::l,h,hm=>by
  rcases List.mem_cons.1 hm with rfl|hm
  ·exact h.1
  ·exact EL.get h.2 hm
def eL:List Nat:=[4,5,6,7,8,9,10,11,12,13,14,15,16,17,18,19,20,21,22,23,24,25,26,27,28,29,30,31,32,33,34,35,36,37,38,39,40,41,42,43,44,45,46,47,48,49,50,51,52,53,54,55,56,57,58,59,60,61,62,63,64,65,66,67,68,69,70,71,72,73,74,75,76,77,78,79,80,81,82,83,84,85,86,87,88,89,90,91,92,93,94,95,96,97,98,99,100,101,102,103,104,105,106,107,108,109,110,111,112,113,114,115,116,117,118,119,120,121,122,123,124,125,126,127,128,129,130,131,132,133,134,135,136,137,138,139,140,141,142,143,144,145,146,147,148,149,150,151,152,153,154,155,156,157,158,159,160,161,162,163,164,165,166,167,168,169,170,171,172,173,174,175,176,177,178,179,180,181,182,183,184,185,186,187,188,189,190,191,192,193,194,195,196,197,198,199,200,201,202,203,204,205,206,207,208,209,210,211,212,213,214,215,216,217,218,219,220,221,222,223,224,225,226,227,228,229,230,231,232,233,234,235,236,237,238,239,242,243,244,245,246,247,248,249,250,251,252,253,254,255,256,257,258,259,260,261,262,263,265,266,267,268,269,270,271,272,273,274,275,276,277,278,279,280,281,282,283,284,285,286,287,288,289,290,291,292,293,294,295,296,297,298,299,300,301,302,303,304,310,311,312,313,314,315,316,317,318,319,320,321,322,323,332,333,334,335,336,337,338,339,340,341,342,343,344,345,346,347,348,349,350,351,353,354,355,356,357,360,361,362,363,364,365,366,374,375,376,377,378,379,380,381,382,383,384,385,386,387,388,389,390,394,397,398,399,400,401,402,403,404,405,406,407,410]
open Tryz in
theorem eLs:EL prog eL:=⟨call4,call5,call6,call7,call8,call9,call10,call11,call12,call13,call14,call15,call16,call17,call18,call19,call20,call21,call22,call23,call24,call25,call26,call27,call28,call29,call30,call31,call32,call33,call34,call35,call36,call37,call38,call39,call40,call41,call42,call43,call44,call45,call46,call47,call48,call49,call50,call51,call52,call53,call54,call55,call56,call57,call58,call59,call60,call61,call62,call63,call64,call65,call66,call67,call68,call69,call70,call71,call72,call73,call74,call75,call76,call77,call78,call79,call80,call81,call82,call83,call84,call85,call86,call87,call88,call89,call90,call91,call92,call93,call94,call95,call96,call97,call98,call99,call100,call101,call102,call103,call104,call105,call106,call107,call108,call109,call110,call111,call112,call113,call114,call115,call116,call117,call118,call119,call120,call121,call122,call123,call124,call125,call126,call127,call128,call129,call130,call131,call132,call133,call134,call135,call136,call137,call138,call139,call140,call141,call142,call143,call144,call145,call146,call147,call148,call149,call150,call151,call152,call153,call154,call155,call156,call157,call158,call159,call160,call161,call162,call163,call164,call165,call166,call167,call168,call169,call170,call171,call172,call173,call174,call175,call176,call177,call178,call179,call180,call181,call182,call183,call184,call185,call186,call187,call188,call189,call190,call191,call192,call193,call194,call195,call196,call197,call198,call199,call200,call201,call202,call203,call204,call205,call206,call207,call208,call209,call210,call211,call212,call213,call214,call215,call216,call217,call218,call219,call220,call221,call222,call223,call224,call225,call226,call227,call228,call229,call230,call231,call232,call233,call234,call235,call236,call237,call238,call239,call242,call243,call244,call245,call246,call247,call248,call249,call250,call251,call252,call253,call254,call255,call256,call257,call258,call259,call260,call261,call262,call263,call265,call266,call267,call268,call269,call270,call271,call272,call273,call274,call275,call276,call277,call278,call279,call280,call281,call282,call283,call284,call285,call286,call287,call288,call289,call290,call291,call292,call293,call294,call295,call296,call297,call298,call299,call300,call301,call302,call303,call304,call310,call311,call312,call313,call314,call315,call316,call317,call318,call319,call320,call321,call322,call323,call332,call333,call334,call335,call336,call337,call338,call339,call340,call341,call342,call343,call344,call345,call346,call347,call348,call349,call350,call351,call353,call354,call355,call356,call357,call360,call361,call362,call363,call364,call365,call366,call374,call375,call376,call377,call378,call379,call380,call381,call382,call383,call384,call385,call386,call387,call388,call389,call390,call394,call397,call398,call399,call400,call401,call402,call403,call404,call405,call406,call407,call410,trivial⟩
def okF (f:Nat):Bool:=decide (f<486)&& !([0,1,2,3,240,241,264,305,306,307,308,309,324,325,326,327,328,329,330,331,352,358,359,367,368,369,370,371,372,373,391,392,393,395,396,408,409,411,412,413,414,415,416,417,418,419,420,421,422,423,424,425,426,427,428,429,430,431,432,433,434,435,436,437,438,439,440,441,442,443,444,445,446,447,448,449,450,451,452,453,454,455,456,457,458,459,460,461,462,463,464,465,466,467,468,469,470,471,472,473,474,475,476,477,478,479,480,481,482,483,484,485].contains f)
theorem ayP (h:okF f=true):f∈eL:=by
 have h1:(List.range 486).all (fun f=> !okF f||eL.contains f)=true:=by kernel_rfl
 have h2:f<486:=by simp only[okF,Bool.and_eq_true,decide_eq_true_eq]at h;exact h.1
 have h3:=List.all_eq_true.1 h1 f (List.mem_range.2 h2);rw[h]at h3;simpa using h3
@[go_sem] theorem enF (h:okF f=true):Dv.Enters prog f:=EL.get eLs (ayP h)
attribute [go_sem] okF
theorem asM {M:List (Nat×Nat)}{L:List (Nat×TyE)}{t:Nat}(h1:M.lookup t=none)(h2:∀p∈L,p.1≠t):asQ M L t=⟨.no,0,.any 0⟩:=by
 unfold asQ;rw[h1]
 induction L with
 |nil=>rfl
 |cons p L ih=>
  obtain⟨u,e⟩:=p;have h3:=h2 (u,e) List.mem_cons_self;simp only[tab];rw[if_neg (by simpa using Ne.symm h3)];exact ih fun p hp=>h2 p (List.mem_cons_of_mem _ hp)
theorem ab4 :∀{M:List (Nat×Nat)},((M.map fun p=>p.1).contains f)=false->M.lookup f=none
 |[],_=>rfl
 |(a,b)::M,h=>by
  simp only[List.map_cons,List.contains_cons,Bool.or_eq_false_iff]at h;rw[List.lookup,h.1];exact ab4 h.2
@[go_sem] theorem muF (h1:1000000<=f)(h2:([1000072,1000133,1000138,1000152,1000156,1000200,1000204,1000232,1000258,1000265,1000279,1000281,1000282,1000334,1000351].contains f)=false):T f=⟨.no,0,.any 0⟩:=by
 unfold T;refine asM (ab4 h2) fun p hp e=> ?_;have h3:=fun h=>List.all_eq_true (p:=fun q:Nat×TyE=>decide (q.1<1000000))|>.1 h p hp;have h4:=h3 (by kernel_rfl);simp only[decide_eq_true_eq]at h4;omega
@[go_sem] theorem aFT:T 1000072=⟨.no,1,.any 0⟩:=rfl
@[go_sem] theorem aFD:T 1000133=⟨.no,1,.any 0⟩:=rfl
@[go_sem] theorem aE4:T 1000138=⟨.no,1,.any 0⟩:=rfl
@[go_sem] theorem aE7:T 1000152=⟨.no,1001,.any 0⟩:=rfl
@[go_sem] theorem aE0:T 1000156=⟨.no,1,.any 0⟩:=rfl
@[go_sem] theorem aFC:T 1000200=⟨.no,1,.any 0⟩:=rfl
@[go_sem] theorem aE1:T 1000204=⟨.no,1,.any 0⟩:=rfl
@[go_sem] theorem aE5:T 1000232=⟨.no,1,.any 0⟩:=rfl
@[go_sem] theorem aE2:T 1000258=⟨.no,1,.any 0⟩:=rfl
@[go_sem] theorem aFE:T 1000265=⟨.no,1,.any 0⟩:=rfl
@[go_sem] theorem aE9:T 1000279=⟨.no,1000,.any 0⟩:=rfl
@[go_sem] theorem aFB:T 1000281=⟨.no,1000,.any 0⟩:=rfl
@[go_sem] theorem aFF:T 1000282=⟨.no,1000,.any 0⟩:=rfl
@[go_sem] theorem aE8:T 1000334=⟨.no,1000,.any 0⟩:=rfl
@[go_sem] theorem aFA:T 1000351=⟨.no,1,.any 0⟩:=rfl
theorem mu26:T 1000026=⟨.no,0,.any 0⟩:=rfl
theorem en26:Dv.Enters prog 26:=call26
theorem aD8:T 1000073=⟨.no,0,.any 0⟩:=rfl
theorem aDH:Dv.Enters prog 73:=call73
theorem aEV:T 1000075=⟨.no,0,.any 0⟩:=rfl
theorem aEN:Dv.Enters prog 75:=call75
theorem az9:T 1000129=⟨.no,0,.any 0⟩:=rfl
theorem aAG:Dv.Enters prog 129:=call129
theorem aDG:T 1000134=⟨.no,0,.any 0⟩:=rfl
theorem aD2:Dv.Enters prog 134:=call134
theorem aC9:T 1000153=⟨.no,0,.any 0⟩:=rfl
theorem aDS:Dv.Enters prog 153:=call153
theorem aD6:T 1000203=⟨.no,0,.any 0⟩:=rfl
theorem aDD:Dv.Enters prog 203:=call203
theorem aC2:T 1000276=⟨.no,0,.any 0⟩:=rfl
theorem aDN:Dv.Enters prog 276:=call276
theorem aD1:T 1000285=⟨.no,0,.any 0⟩:=rfl
theorem aDL:Dv.Enters prog 285:=call285
theorem aDX:T 1000333=⟨.no,0,.any 0⟩:=rfl
theorem aC1:Dv.Enters prog 333:=call333
theorem aEJ:T 1000341=⟨.no,0,.any 0⟩:=rfl
theorem aDC:Dv.Enters prog 341:=call341
theorem aDW:Dv.Enters prog 354:=call354
theorem aD5:T 1000376=⟨.no,0,.any 0⟩:=rfl
theorem aC5:Dv.Enters prog 376:=call376
theorem aDF:T 1000381=⟨.no,0,.any 0⟩:=rfl
theorem aD9:Dv.Enters prog 381:=call381
theorem aDY:T 1000383=⟨.no,0,.any 0⟩:=rfl
theorem aDV:Dv.Enters prog 383:=call383
abbrev Fk (f:FuncId)(ds:List D)(r:S):Prop:=bK prog f ds fun r'=>r'=r
end Go.Proofs.YtemiopbofamgcaaGreatDoor
end
section
namespace Go.Proofs.YtemiopbofamgcaaGreatDoor
open Go.Dv Go.Pl Go.Proofs.Tryz
abbrev nInts (l:L1):D:= .sl none (l.map dI)
abbrev aF (l:L1):D:= .sl (some 3) (l.map dI)
abbrev bE (l:List Str):D:= .sl none (l.map dS)
abbrev vZ (l:List Str):D:= .sl (some 9) (l.map dS)
abbrev aM (m:L2):D:= .sl none (m.map nInts)
abbrev gN (m:L2):D:= .sl (some 25) (m.map aF)
abbrev gD (v:Ver):D:= .agg [dI v.a,dI v.b,dB v.same,dI v.time]
abbrev nVers (l:List Ver):D:= .sl none (l.map gD)
abbrev oVers (l:List Ver):D:= .sl (some 65) (l.map gD)
abbrev qP (t:Tst):D:= .agg [dI t.feature,dI t.threshold,dB t.below]
abbrev nH (l:List Tst):D:= .agg [.sl none (l.map qP)]
abbrev fZ (r:List (List Tst)):D:= .agg [.sl none (r.map nH)]
abbrev yH (s:Sco):D:= .agg [nInts s.weights,dI s.bias]
abbrev aaS (c:Cfg):D:= .agg [fZ c.rules,yH c.sco,nInts c.surv]
abbrev vG (r:Rec):D:= .agg [dI r.source,dI r.key,dI r.version,bE r.fields]
abbrev iL (l:List Rec):D:= .sl none (l.map vG)
abbrev MM (s:Sto):D:= .agg [dI s.version,iL s.recs,nVers s.vers]
theorem aH (x a b:Int):Fk 24 [dI x,dI a,dI b] (.val (dB (inR x a b))):=by
 refine fE good [] func24 ntmps24 fun _ _=> ?_;simp[go_sem];apply gv<;>intro g1
 ·have g1':=g1;simp[go_sem,g1]
 ·have g1':=g1;simp at g1';simp[go_sem,g1]
theorem aG (x a b:Int):Fk 15 [dI x,dI a,dI b] (.val (dB (inR x a b))):=by
 refine fE good [] func15 ntmps15 fun _ _=> ?_;simp[go_sem];apply gv<;>intro g1
 ·have g1':=g1;simp[go_sem,g1]
 ·have g1':=g1;simp at g1';simp[go_sem,g1]
theorem uJ (x:Int):Fk 130 [dI x] (.val (dB (inR x 1 399))):=by
 refine fE good [] func130 ntmps130 fun _ _=> ?_;simp[go_sem];refine ck (aH _ _ _) ?_;simp[go_sem]
theorem DV (v:Ver):Fk 128 [gD v] (.val (dB (bH v))):=by
 refine fE good [] func128 ntmps128 fun _ _=> ?_;simp[go_sem];refine ck (uJ _) ?_;simp[go_sem];apply gv<;>intro g1
 ·have g1':=g1;simp at g1';simp[go_sem,g1];refine ck (uJ _) ?_;simp[go_sem];apply gv<;>intro g2
  ·have g2':=g2;simp at g2';simp[go_sem,g2];apply gv<;>intro g3
   ·have g3':=g3;simp[go_sem,g3];refine ck (aH _ _ _) ?_;simp[go_sem];grind[bH]
   ·have g3':=g3;simp at g3';simp[go_sem,g3];grind[bH]
  ·have g2':=g2;simp at g2';simp[go_sem,g2];grind[bH]
 ·have g1':=g1;simp at g1';simp[go_sem,g1];grind[bH]
theorem rX (v:Ver):Fk 163 [gD v] (.val (dB (bH v))):=by
 refine fE good [] func163 ntmps163 fun _ _=> ?_;simp[go_sem];refine ck (aG _ _ _) ?_;simp[go_sem];apply gv<;>intro g1
 ·have g1':=g1;simp at g1';simp[go_sem,g1];refine ck (aG _ _ _) ?_;simp[go_sem];apply gv<;>intro g2
  ·have g2':=g2;simp at g2';simp[go_sem,g2];apply gv<;>intro g3
   ·have g3':=g3;simp[go_sem,g3];refine ck (aG _ _ _) ?_;simp[go_sem];grind[bH]
   ·have g3':=g3;simp at g3';simp[go_sem,g3];grind[bH]
  ·have g2':=g2;simp at g2';simp[go_sem,g2];grind[bH]
 ·have g1':=g1;simp at g1';simp[go_sem,g1];grind[bH]
theorem ZZ (s:Str)(hs:s.length<=1048576:=by first|assumption|omega|(simp;omega)|grind):Fk 245 [dS s] (.val (dB (isText s))):=by
 refine fE good [] func245 ntmps245 fun _ _=> ?_;simp[go_sem];refine wl good (fun(i:Nat)=>[(0,.val (dS s)),(3,.val (dI i))]) (fun(i:Nat)=>(s).length-i) (fun(i:Nat)=>(i<=(s).length)/\(((s).take i).all qV=true)) (0) ⟨(by omega),rfl⟩ ?_;rintro i ⟨h1,h2⟩;simp[go_sem];apply gw<;>intro a
 ·obtain⟨c,hc⟩:=aC (l:=s) (i:=i) (by omega);simp[go_sem,hc];apply gv<;>intro g
  ·have g':=g;have hn:=bI hc (P:=qV) (by first|assumption|(simp;omega)|(simp[*];done)|(simp[qV, *];done)|grind[qV]|(simp[qV];omega));simp[go_sem,g];grind[isText]
  ·have g':=g;simp at g';simp[go_sem,hc,g];apply gw<;>intro b
   ·have hn:=bI hc (P:=qV) (by first|assumption|(simp;omega)|(simp[*];done)|(simp[qV, *];done)|grind[qV]|(simp[qV];omega));simp[go_sem];grind[isText]
   ·simp at b;simp[go_sem];refine ai ?_;refine nx (i+1) ⟨(by omega),(aL hc h2 (by first|assumption|(simp;omega)|(simp[*];done)|(simp[qV, *];done)|grind[qV]|(simp[qV];omega)))⟩
 ·simp at a;have hf:=cO h2 a;simp[go_sem];grind[isText]
theorem VG (s:Str)(hs:s.length<=1048576):Fk 162 [dS s] (.val (dB (fF s))):=by
 refine fE good [] func162 ntmps162 fun _ _=> ?_;simp[go_sem];refine wl good (fun(i:Nat)=>[(0,.val (dS s)),(3,.val (dI i))]) (fun(i:Nat)=>(s).length-i) (fun(i:Nat)=>(i<=(s).length)/\(((s).take i).all mX=true)) (0) ⟨(by omega),rfl⟩ ?_;rintro i ⟨h1,h2⟩;simp[go_sem];apply gw<;>intro a
 ·obtain⟨c,hc⟩:=aC (l:=s) (i:=i) (by omega);simp[go_sem,hc];apply gv<;>intro g
  ·have g':=g;have hn:=bI hc (P:=mX) (by first|assumption|(simp;omega)|(simp[*];done)|(simp[mX, *];done)|grind[mX]|(simp[mX];omega));simp[go_sem,g];grind[fF]
  ·have g':=g;simp[go_sem,hc,g];apply gw<;>intro b
   ·have hn:=bI hc (P:=mX) (by first|assumption|(simp;omega)|(simp[*];done)|(simp[mX, *];done)|grind[mX]|(simp[mX];omega));simp[go_sem];grind[fF]
   ·simp[go_sem];refine ai ?_;refine nx (i+1) ⟨(by omega),(aL hc h2 (by first|assumption|(simp;omega)|(simp[*];done)|(simp[mX, *];done)|grind[mX]|(simp[mX];omega)))⟩
 ·simp at a;have hf:=cO h2 a;simp[go_sem];refine ck (ZZ _) ?_;simp[go_sem];grind[fF]
theorem iE (f:L1)(hs:f.length<=1048576:=by first|assumption|omega|(simp;omega)|grind):Fk 166 [nInts f] (.val (dB (mP f))):=by
 refine fE good [] func166 ntmps166 fun _ _=> ?_;simp[go_sem];refine wl good (fun(i:Nat)=>[(0,.val (nInts f)),(3,.val (dI i))]) (fun(i:Nat)=>(f).length-i) (fun(i:Nat)=>(i<=(f).length)/\(((f).take i).all xS=true)) (0) ⟨(by omega),rfl⟩ ?_;rintro i ⟨h1,h2⟩;simp[go_sem];apply gw<;>intro a
 ·obtain⟨c,hc⟩:=aC (l:=f) (i:=i) (by omega);simp[go_sem,hc];refine ck (aG _ _ _) ?_;simp[go_sem];apply gw<;>intro b
  ·simp at b;have hn:=bI hc (P:=xS) (by first|assumption|(simp;omega)|(simp[*];done)|(simp[xS, *];done)|grind[xS]|(simp[xS];omega));simp[go_sem];grind[mP]
  ·simp at b;simp[go_sem];refine ai ?_;refine nx (i+1) ⟨(by omega),(aL hc h2 (by first|assumption|(simp;omega)|(simp[*];done)|(simp[xS, *];done)|grind[xS]|(simp[xS];omega)))⟩
 ·simp at a;have hf:=cO h2 a;simp[go_sem];grind[mP]
theorem zT (f:L1)(hs:f.length<=1048576:=by first|assumption|omega|(simp;omega)|grind):Fk 87 [nInts f] (.val (dB (tH f))):=by
 refine fE good [] func87 ntmps87 fun _ _=> ?_;simp[go_sem];refine wl good (fun(i:Nat)=>[(0,.val (nInts f)),(3,.val (dI i))]) (fun(i:Nat)=>(f).length-i) (fun(i:Nat)=>(i<=(f).length)/\(((f).take i).all GV=true)) (0) ⟨(by omega),rfl⟩ ?_;rintro i ⟨h1,h2⟩;simp[go_sem];apply gw<;>intro a
 ·obtain⟨c,hc⟩:=aC (l:=f) (i:=i) (by omega);simp[go_sem,hc];refine ck (aG _ _ _) ?_;simp[go_sem];apply gw<;>intro b
  ·simp at b;have hn:=bI hc (P:=GV) (by first|assumption|(simp;omega)|(simp[*];done)|(simp[GV, *];done)|grind[GV]|(simp[GV];omega));simp[go_sem];grind[tH]
  ·simp at b;simp[go_sem];refine ai ?_;refine nx (i+1) ⟨(by omega),(aL hc h2 (by first|assumption|(simp;omega)|(simp[*];done)|(simp[GV, *];done)|grind[GV]|(simp[GV];omega)))⟩
 ·simp at a;have hf:=cO h2 a;simp[go_sem];grind[tH]
theorem kR (a b:Int):Fk 50 [dI a,dI b] (.val (dI (cmpI a b))):=by
 refine fE good [] func50 ntmps50 fun _ _=> ?_;simp[go_sem];apply gw<;>intro h1
 ·simp[go_sem];grind[cmpI]
 ·simp at h1;simp[go_sem];apply gw<;>intro h2
  ·simp[go_sem];grind[cmpI]
  ·simp at h2;simp[go_sem];grind[cmpI]
theorem iT (l:L1)(x:Int)(hs:l.length<=1048576:=by first|assumption|omega|(simp;omega)|grind):Fk 117 [nInts l,dI x] (.val (dI (ix (fun y=>decide (y=x)) l))):=by
 refine fE good [] func117 ntmps117 fun _ _=> ?_;simp[go_sem];refine wl good (fun(i:Nat)=>[(0,.val (nInts l)),(1,.val (dI x)),(5,.val (dI i))]) (fun(i:Nat)=>(l).length-i) (fun(i:Nat)=>(i<=(l).length)/\(((l).take i).any (fun y=>decide (y=x))=false)) (0) ⟨(by omega),rfl⟩ ?_;rintro i ⟨h1,h2⟩;simp[go_sem];apply gw<;>intro a
 ·obtain⟨c,hc⟩:=aC (l:=l) (i:=i) (by omega);simp[go_sem,hc];apply gw<;>intro b
  ·have hn:=vH hc h2 (by simp[b]);simp[go_sem,hn]
  ·simp[go_sem];refine ai ?_;refine nx (i+1) ⟨(by omega),(eF hc h2 (by simp[b]))⟩
 ·simp at a;have hf:=jU h2 a;have hx:=kV hf;simp[go_sem,hx]
theorem mO (l:List Ver)(hs:l.length<=1048576:=by first|assumption|omega|(simp;omega)|grind):Fk 92 [nVers l] (.own (oVers l)):=by
 refine fE good [] func92 ntmps92 fun _ _=> ?_;simp[go_sem];omega
theorem jS (r:Rec)(hs:vV r):Fk 88 [vG r] (.val (dB (aJ r))):=by
 refine fE good [] func88 ntmps88 fun _ _=> ?_;obtain⟨hs1,hs2⟩:=hs;simp[go_sem];refine wl good (fun(i:Nat)=>[(1,.own (.bx true (vG r))),(3,.val (dI i))]) (fun(i:Nat)=>(r.fields).length-i) (fun(i:Nat)=>(i<=(r.fields).length)/\(((r.fields).take i).all fF=true)) (0) ⟨(by omega),rfl⟩ ?_;rintro i ⟨h1,h2⟩;simp[go_sem];apply gw<;>intro a
 ·obtain⟨c,hc⟩:=aC (l:=r.fields) (i:=i) (by omega);simp[go_sem,hc];refine ck (VG _ (hs2 c (List.mem_of_getElem? hc))) ?_;simp[go_sem];apply gw<;>intro b
  ·simp at b;have hn:=bI hc (P:=fF) (by first|assumption|(simp;omega)|(simp[*];done)|(simp[fF, *];done)|grind[fF]|(simp[fF];omega));simp[go_sem];grind[aJ]
  ·simp at b;simp[go_sem];refine ai ?_;refine nx (i+1) ⟨(by omega),(aL hc h2 (by first|assumption|(simp;omega)|(simp[*];done)|(simp[fF, *];done)|grind[fF]|(simp[fF];omega)))⟩
 ·simp at a;have hf:=cO h2 a;simp[go_sem];refine ck (aG _ _ _) ?_;simp[go_sem];apply gv<;>intro g1
  ·have g1':=g1;simp at g1';simp[go_sem,g1];refine ck (aG _ _ _) ?_;simp[go_sem];apply gv<;>intro g2
   ·have g2':=g2;simp at g2';simp[go_sem,g2];refine ck (aG _ _ _) ?_;simp[go_sem];apply gv<;>intro g3
    ·have g3':=g3;simp at g3';simp[go_sem,g3];grind[aJ]
    ·have g3':=g3;simp at g3';simp[go_sem,g3];grind[aJ]
   ·have g2':=g2;simp at g2';simp[go_sem,g2];grind[aJ]
  ·have g1':=g1;simp at g1';simp[go_sem,g1];grind[aJ]
theorem tT (r:Rec)(hs:inR r.source 0 3=true)(hk:inR r.key 1 99=true):Fk 89 [vG r] (.val (dI (eH r))):=by
 refine fE good [] func89 ntmps89 fun _ _=> ?_;simp at hs hk;simp[go_sem];iterate 2 refine ai ?_
 grind[eH]
theorem VI (l:List Rec)(hs:l.length<=1048576)(hr:∀r∈l,vV r):Fk 97 [iL l] (.val (dB (l.all aJ&&decide (l.length<=12)))):=by
 refine fE good [] func97 ntmps97 fun _ _=> ?_;simp[go_sem];refine wl good (fun(i:Nat)=>[(0,.val (iL l)),(3,.val (dI i))]) (fun(i:Nat)=>(l).length-i) (fun(i:Nat)=>(i<=(l).length)/\(((l).take i).all aJ=true)) (0) ⟨(by omega),rfl⟩ ?_;rintro i ⟨h1,h2⟩;simp[go_sem];apply gw<;>intro a
 ·obtain⟨c,hc⟩:=aC (l:=l) (i:=i) (by omega);simp[go_sem,hc];refine ck (jS _ (hr c (List.mem_of_getElem? hc))) ?_;simp[go_sem];apply gw<;>intro b
  ·simp at b;have hn:=bI hc (P:=aJ) (by first|assumption|(simp;omega)|(simp[*];done)|(simp[aJ, *];done)|grind[aJ]|(simp[aJ];omega));simp[go_sem,hn]
  ·simp at b;simp[go_sem];refine ai ?_;refine nx (i+1) ⟨(by omega),(aL hc h2 (by first|assumption|(simp;omega)|(simp[*];done)|(simp[aJ, *];done)|grind[aJ]|(simp[aJ];omega)))⟩
 ·simp at a;have hf:=cO h2 a;simp[go_sem,hf];omega
abbrev ah4 (c:Con):D:= .agg [dI c.a,dI c.b,dB c.same]
abbrev zM (l:List Con):D:= .sl (some 143) (l.map ah4)
abbrev bG (l:List Con):D:= .sl none (l.map ah4)
theorem at7 (a b c d:Int)(s t:Bool)(a' b':Int):Dv.EqAt prog 65 [.int .i64 a,.int .i64 b,.bool s,.int .i64 c] [.int .i64 a',.int .i64 b',.bool t,.int .i64 d] (decide (a=a'/\b=b'/\s=t/\c=d)):=by
 refine⟨by kernel_rfl,fun w=> ?_⟩;have u3:=underlying3;have a3:=Tryz.isAgg3;have z3:=Tryz.sizeOf3;have u4:=underlying4;have a4:=Tryz.isAgg4;have z4:=Tryz.sizeOf4;have hS:prog.underlying 65=some (.struct (prog.fieldsOf 65)):=by kernel_rfl
 have hp:prog.stoodInHeld 65=false:=by kernel_rfl
 rw[show(10000:Nat)=9999+1 from rfl,run_equalIn_agg w 9999 65 _ _ hS hp];simp only[Program.fieldsOf,underlying65]
 go_simp
 by_cases h1:a=a'<;>by_cases h2:b=b'<;>by_cases h3:s=t<;>by_cases h4:c=d<;>simp[h1,h2,h3,h4]
@[go_sem] theorem aCW (a b c d:Int)(s t:Bool)(a' b':Int)(r:Bool):Dv.EqAt prog 65 [.int .i64 a,.int .i64 b,.bool s,.int .i64 c] [.int .i64 a',.int .i64 b',.bool t,.int .i64 d] r↔r=(decide (a=a'/\b=b'/\s=t/\c=d)):=(at7 a b c d s t a' b').iff
theorem lJ (a b:Ver):Fk 164 [gD a,gD b] (.val (dI (bP a b))):=by
 refine fE good [] func164 ntmps164 fun _ _=> ?_;simp[go_sem];refine ck (kR _ _) ?_;simp[go_sem];apply gw<;>intro h1
 ·simp[go_sem];refine ck (kR _ _) ?_;simp[go_sem];apply gw<;>intro h2
  ·simp[go_sem];refine ck (kR _ _) ?_;simp[go_sem];apply gv<;>intro g3
   ·have g3':=g3;simp[go_sem,g3];apply gw<;>intro h4
    ·simp at h4;simp[go_sem];apply gw<;>intro h5
     ·simp[go_sem];grind[bP]
     ·simp[go_sem];grind[bP]
    ·simp at h4;simp[go_sem];grind[bP]
   ·have g3':=g3;simp[go_sem,g3];grind[bP]
  ·simp[go_sem];apply gv<;>intro g6
   ·have g6':=g6;simp[go_sem,g6];apply gw<;>intro h7
    ·simp at h7;simp[go_sem];apply gw<;>intro h8
     ·simp[go_sem];omega
     ·simp[go_sem];omega
    ·simp at h7;simp[go_sem];omega
   ·have g6':=g6;simp[go_sem,g6];grind[bP]
 ·simp[go_sem];apply gw<;>intro h9
  ·simp[go_sem];refine ck (kR _ _) ?_;simp[go_sem];apply gv<;>intro g10
   ·have g10':=g10;simp[go_sem,g10];apply gw<;>intro h11
    ·simp at h11;simp[go_sem];apply gw<;>intro h12
     ·simp[go_sem];omega
     ·simp[go_sem];omega
    ·simp at h11;simp[go_sem];omega
   ·have g10':=g10;simp[go_sem,g10];omega
  ·simp[go_sem];apply gv<;>intro g13
   ·have g13':=g13;simp[go_sem,g13];apply gw<;>intro h14
    ·simp at h14;simp[go_sem];apply gw<;>intro h15
     ·simp[go_sem];omega
     ·simp[go_sem];omega
    ·simp at h14;simp[go_sem];omega
   ·have g13':=g13;simp[go_sem,g13];grind[bP]
theorem aaF (l:List Ver)(v:Ver)(hs:l.length<=1048576:=by first|assumption|omega|(simp;omega)|grind):Fk 165 [nVers l,gD v] (.val (dI (ix (fun y=>decide (y=v)) l))):=by
 refine fE good [] func165 ntmps165 fun _ _=> ?_;simp[go_sem];refine wl good (fun(i:Nat)=>[(0,.val (nVers l)),(3,.own (.bx true (gD v))),(5,.val (dI i))]) (fun(i:Nat)=>(l).length-i) (fun(i:Nat)=>(i<=(l).length)/\(((l).take i).any (fun y=>decide (y=v))=false)) (0) ⟨(by omega),rfl⟩ ?_;rintro i ⟨h1,h2⟩;simp[go_sem];apply gw<;>intro a
 ·obtain⟨c,hc⟩:=aC (l:=l) (i:=i) (by omega);simp[go_sem];refine wdr good ?_;simp[go_sem,hc];apply gw<;>intro b
  ·simp at b;have hn:=vH hc h2 (by cases c;cases v;simp_all);simp[go_sem,hn]
  ·simp at b;simp[go_sem];refine ai ?_;refine nx (i+1) ⟨(by omega),(eF hc h2 (by cases c;cases v;simp_all))⟩
 ·simp at a;have hf:=jU h2 a;have hx:=kV hf;simp[go_sem,hx]
theorem jF (g:L2)(x:Int)(hs:g.length<=1048576:=by first|assumption|omega|(simp;omega)|grind)(hg:∀l∈g,l.length<=1048576:=by first|assumption|omega|(simp;omega)|grind):Fk 100 [aM g,dI x] (.val (dI (bA g x))):=by
 refine fE good [] func100 ntmps100 fun _ _=> ?_;simp[go_sem];refine wl good (fun(i:Nat)=>[(0,.val (aM g)),(1,.val (dI x)),(5,.val (dI i))]) (fun(i:Nat)=>(g).length-i) (fun(i:Nat)=>(i<=(g).length)/\(((g).take i).any (grp x)=false)) (0) ⟨(by omega),rfl⟩ ?_;rintro i ⟨h1,h2⟩;simp[go_sem];apply gw<;>intro a
 ·obtain⟨c,hc⟩:=aC (l:=g) (i:=i) (by omega);simp[go_sem,hc];refine ck (iT _ _ (hg c (List.mem_of_getElem? hc))) ?_;simp[go_sem];apply gw<;>intro b
  ·have hx:bA g x=i:=vH hc h2 (dK.1 b);simp[go_sem,hx]
  ·simp at b;simp[go_sem];refine ai ?_;refine nx (i+1) ⟨(by omega),(eF hc h2 (by rw[Bool.eq_false_iff];intro h;have:=dK.2 h;unfold grp at*;omega))⟩
 ·simp at a;have hx:bA g x= -1:=kV (jU h2 a);simp[go_sem,hx]
theorem SB (g:L2)(l:List Ver)(hs:g.length<=1048576)(hg:∀l∈g,l.length<=1048576)(hl:l.length<=1048576):Fk 94 [aM g,nVers l] (.val (dB (l.all (tV g)))):=by
 refine fE good [] func94 ntmps94 fun _ _=> ?_;simp[go_sem];refine wl good (fun(i:Nat)=>[(0,.val (aM g)),(1,.val (nVers l)),(5,.val (dI i))]) (fun(i:Nat)=>(l).length-i) (fun(i:Nat)=>(i<=(l).length)/\(((l).take i).all (tV g)=true)) (0) ⟨(by omega),rfl⟩ ?_;rintro i ⟨h1,h2⟩;simp[go_sem];apply gw<;>intro a
 ·obtain⟨c,hc⟩:=aC (l:=l) (i:=i) (by omega);simp[go_sem,hc];refine ck (jF _ _) ?_;simp[go_sem];apply gv<;>intro e
  ·have e':=e;simp[go_sem,hc,e];refine ck (jF _ _) ?_;simp[go_sem];apply gw<;>intro b
   ·have hn:=bI hc (P:=(tV g)) (by simp[tV,b];omega);simp[go_sem,hn]
   ·simp[go_sem];refine ai ?_;refine nx (i+1) ⟨(by omega),(aL hc h2 (by simp[tV,b,e]))⟩
  ·have e':=e;simp at e';simp[go_sem,e];refine ai ?_;refine nx (i+1) ⟨(by omega),(aL hc h2 (by simp[tV,e]))⟩
 ·simp at a;have hf:=cO h2 a;simp[go_sem,hf]
theorem iX (s:Sco)(hs:s.weights.length<=1048576:=by first|assumption|omega|(simp;omega)|grind):Fk 86 [yH s] (.val (dB (fC s))):=by
 refine fE good [] func86 ntmps86 fun _ _=> ?_;simp[go_sem];refine wl good (fun(i:Nat)=>[(1,.own (.bx true (yH s))),(3,.val (dI (s.weights.take i).sum)),(4,.val (dI i))]) (fun(i:Nat)=>(s.weights).length-i) (fun(i:Nat)=>(i<=(s.weights).length)/\((s.weights.take i).all wJ=true)/\(0<=(s.weights.take i).sum/\(s.weights.take i).sum<=9*i)) (0) ⟨(by omega),rfl,(by simp)⟩ ?_;rintro i ⟨h1,h2,h3⟩;simp[go_sem];apply gw<;>intro a
 ·obtain⟨c,hc⟩:=aC (l:=s.weights) (i:=i) (by omega);simp[go_sem,hc];refine ck (aG _ _ _) ?_;simp[go_sem];apply gw<;>intro b
  ·simp at b;have hn:=bI hc (P:=wJ) (by simp[wJ];omega);simp[go_sem];grind[fC]
  ·simp at b;have hsum:(s.weights.take (i+1)).sum=(s.weights.take i).sum+c:=by rw[aU hc];simp
   simp[go_sem,hc];iterate 2 refine ai ?_
   refine nx (i+1) ⟨(by omega),(aL hc h2 (by simp[wJ];omega)),(by omega)⟩ (h3:=by simp[go_sem,hc,hsum])
 ·simp at a;have hf:=cO h2 a;rw[aK a];simp[go_sem];apply gv<;>intro g1
  ·have g1':=g1;simp[go_sem,g1];apply gv<;>intro g2
   ·have g2':=g2;simp[go_sem,g2];refine ck (aG _ _ _) ?_;simp[go_sem];grind[fC]
   ·have g2':=g2;simp at g2';simp[go_sem,g2];grind[fC]
  ·have g1':=g1;simp[go_sem,g1];grind[fC]
theorem oQ (l:List Ver)(hs:l.length<=1048576:=by first|assumption|omega|(simp;omega)|grind):Fk 90 [nVers l] (.val (dB (eO l))):=by
 refine fE good [] func90 ntmps90 fun _ _=> ?_;simp[go_sem];refine wl good (fun(i:Nat)=>[(0,.val (nVers l)),(3,.val (dI i))]) (fun(i:Nat)=>(l).length-i) (fun(i:Nat)=>(i<=(l).length)/\((l.take i).all bH=true)/\(adj (fun a b=>decide (bP a b<0)) (l.take i)=true)) (0) ⟨(by omega),rfl,rfl⟩ ?_;rintro i ⟨h1,h2,h3⟩;simp[go_sem];apply gw<;>intro a
 ·obtain⟨c,hc⟩:=aC (l:=l) (i:=i) (by omega);simp[go_sem];refine wdr good ?_;simp[go_sem,hc];refine cd (rX _) ?_;simp[go_sem];apply gv<;>intro e
  ·have e':=e;simp at e';have hn:=bI hc (P:=bH) (by simpa using e);simp[go_sem,e];grind[eO]
  ·have e':=e;simp at e';simp[go_sem,e];apply gv<;>intro f
   ·have f':=f;obtain⟨p,hp⟩:=aC (l:=l) (i:=i-1) (by omega);have hi1:i-1+1=i:=by omega
    simp[go_sem,hc,f,hp];iterate 2 refine ai ?_
    refine cd (lJ _ _) ?_;simp[go_sem];apply gw<;>intro b
    ·have hn:=zW hp (by rw[hi1];exact hc) (R:=fun a b=>decide (bP a b<0)) (by simp;omega);simp[go_sem];grind[eO]
    ·simp at b;simp[go_sem];refine ai ?_;refine nx (i+1) ⟨(by omega),(aL hc h2 (by simpa using e)),(by have:=pQ (i:=i-1) (by rw[hi1];exact h3) hp (by rw[hi1];exact hc) (by simp;omega);rwa [hi1]at this)⟩
   ·have f':=f;simp at f';simp[go_sem,f];refine ai ?_;refine nx (i+1) ⟨(by omega),(aL hc h2 (by simpa using e)),(by obtain rfl:i=0:=(by omega);exact mU)⟩
 ·simp at a;have hf:=cO h2 a;rw[aK a]at h3;simp[go_sem];grind[eO]
def auU (l:List Str):Prop:=l.length<=9223372036854775807/\∀x∈l,x.length<=9223372036854775807
def akX (l:List Str)(left:Int):Prop:=(l.length:Int)<=left/\∀x∈l,(x.length:Int)<=left
theorem apP {l:List Str}{a b:Int}(h:akX l a)(hab:a<=b):akX l b:=⟨by have:=h.1;omega,fun x hx=>by have:=h.2 x hx;omega⟩
def as2 (l:List Rec):Prop:=l.length<=9223372036854775807/\∀o∈l,auU o.fields
def aB8 (l:List Rec)(left:Int):Prop:=(l.length:Int)<=left/\∀o∈l,akX o.fields left
def anN (l:List (List Tst)):Prop:=l.length<=9223372036854775807/\∀o∈l,o.length<=9223372036854775807
def ay4 (l:List (List Tst))(left:Int):Prop:=(l.length:Int)<=left/\∀o∈l,(o.length:Int)<=left
theorem VD (l:List Tst)(left:Int)(hl:l.length<=9223372036854775807)(h0:0<=left/\left<=1048576):bK prog 244 [.sl none (l.map qP),dI left] (fun r=>∃v:Int,r= .val (dI v)/\(-1<=v/\v<=left)/\(0<=v->(l.length:Int)<=left)):=by
 refine fE good [] func244 ntmps244 fun _ _=> ?_;simp[go_sem];refine ai ?_;apply gw<;>intro e
 ·simp[go_sem];omega
 ·simp at e;simp[go_sem];refine ai ?_;omega
theorem YQ (l:List Tst)(left:Int)(hl:l.length<=9223372036854775807)(h0:0<=left/\left<=1048576):bK prog 160 [nH l,dI left] (fun r=>∃v:Int,r= .val (dI v)/\(-1<=v/\v<=left)/\(0<=v->(l.length:Int)<=left)):=by
 refine fE good [] func160 ntmps160 fun _ _=> ?_;simp[go_sem];refine bC (VD l left hl h0) (by simp[go_sem]) ?_;rintro r ⟨v,rfl,hv,hf⟩;refine⟨by simp[go_sem],?_⟩;simp[go_sem];apply gw<;>intro b
 ·simp[go_sem];omega
 ·simp at b;have hfit:=hf (by omega);simp[go_sem,hfit];refine ai ?_;omega
theorem U0 (l:List (List Tst))(left:Int)(hl:anN l)(h0:0<=left/\left<=1048576):bK prog 83 [.sl none (l.map nH),dI left] (fun r=>∃v:Int,r= .val (dI v)/\(-1<=v/\v<=left)/\(0<=v->ay4 l left)):=by
 refine fE good [] func83 ntmps83 fun _ _=> ?_;have hl1:=hl.1;simp[go_sem];refine ai ?_;apply gw<;>intro e
 ·simp[go_sem];omega
 ·simp at e;simp[go_sem];refine wl good (fun((i,L):(Nat)×(Int))=>[(0,.val (.sl none (l.map nH))),(1,.val (dI L)),(5,.val (dI i))]) (fun(i,L)=>l.length-i) (fun(i,L)=>(i<=l.length)/\(0<=L/\L<=left-l.length)/\(∀o∈l.take i,(o.length:Int)<=left)) ((0,left-l.length)) ⟨(by omega),(by omega),(by simp)⟩ ?_;rintro⟨i,L⟩ ⟨h1,h2,h3⟩;simp[go_sem];apply gw<;>intro a
  ·obtain⟨c,hc⟩:=aC (l:=l) (i:=i) (by omega);have hcl:=hl.2 c (List.mem_of_getElem? hc);simp[go_sem,hc];refine bC (YQ c L hcl (by omega)) (by simp[go_sem]) ?_;rintro r ⟨v,rfl,hv,hf⟩;refine⟨by simp[go_sem],?_⟩;simp[go_sem];apply gw<;>intro b
   ·simp[go_sem];omega
   ·simp at b;have hfc:=hf (by omega);simp[go_sem];refine ai ?_;refine nx (i+1,v) ⟨(by omega),(by omega),(by rw[aU hc];intro x hx;rcases List.mem_append.1 hx with hx|hx;(exact h3 x hx);(obtain rfl:=List.mem_singleton.1 hx;omega))⟩
  ·simp at a;have hfit:ay4 l left:=⟨by omega,by rwa [aK (by omega)]at h3⟩;simp[go_sem,hfit];refine ai ?_;omega
theorem QJ (l:List (List Tst))(left:Int)(hl:anN l)(h0:0<=left/\left<=1048576):bK prog 35 [fZ l,dI left] (fun r=>∃v:Int,r= .val (dI v)/\(-1<=v/\v<=left)/\(0<=v->ay4 l left)):=by
 refine fE good [] func35 ntmps35 fun _ _=> ?_;simp[go_sem];refine bC (U0 l left hl h0) (by simp[go_sem]) ?_;rintro r ⟨v,rfl,hv,hf⟩;refine⟨by simp[go_sem],?_⟩;simp[go_sem];apply gw<;>intro b
 ·simp[go_sem];omega
 ·simp at b;have hfit:=hf (by omega);simp[go_sem,hfit];refine ai ?_;omega
theorem xH (l:L1)(left:Int)(hl:l.length<=9223372036854775807)(h0:0<=left/\left<=1048576):bK prog 37 [nInts l,dI left] (fun r=>∃v:Int,r= .val (dI v)/\(-1<=v/\v<=left)/\(0<=v->v+(l.length:Int)<=left)):=by
 refine fE good [] func37 ntmps37 fun _ _=> ?_;simp[go_sem];refine ai ?_;apply gw<;>intro e
 ·simp[go_sem];omega
 ·simp at e;simp[go_sem];refine ai ?_;omega
theorem ND (s:Sco)(left:Int)(hl:s.weights.length<=9223372036854775807)(h0:0<=left/\left<=1048576):bK prog 36 [yH s,dI left] (fun r=>∃v:Int,r= .val (dI v)/\(-1<=v/\v<=left)/\(0<=v->(s.weights.length:Int)<=left)):=by
 refine fE good [] func36 ntmps36 fun _ _=> ?_;simp[go_sem];refine bC (xH s.weights left hl h0) (by simp[go_sem]) ?_;rintro r ⟨v,rfl,hv,hf⟩;refine⟨by simp[go_sem],?_⟩;simp[go_sem];apply gw<;>intro b
 ·simp[go_sem];omega
 ·simp at b;have hfit:=hf (by omega);simp[go_sem];refine ai ?_;omega
theorem xR (l:List Ver)(left:Int)(hl:l.length<=9223372036854775807)(h0:0<=left/\left<=1048576):bK prog 12 [nVers l,dI left] (fun r=>∃v:Int,r= .val (dI v)/\(-1<=v/\v<=left)/\(0<=v->(l.length:Int)<=left)):=by
 refine fE good [] func12 ntmps12 fun _ _=> ?_;simp[go_sem];refine ai ?_;apply gw<;>intro e
 ·simp[go_sem];omega
 ·simp at e;simp[go_sem];refine ai ?_;omega
theorem NT (l:List Str)(left:Int)(hl:auU l)(h0:0<=left/\left<=1048576):bK prog 161 [bE l,dI left] (fun r=>∃v:Int,r= .val (dI v)/\(-1<=v/\v<=left)/\(0<=v->akX l left)):=by
 refine fE good [] func161 ntmps161 fun _ _=> ?_;have hl1:=hl.1;simp[go_sem];refine ai ?_;apply gw<;>intro e
 ·simp[go_sem];omega
 ·simp at e;simp[go_sem];refine wl good (fun((i,L):(Nat)×(Int))=>[(0,.val (bE l)),(1,.val (dI L)),(5,.val (dI i))]) (fun(i,L)=>l.length-i) (fun(i,L)=>(i<=l.length)/\(0<=L/\L<=left-l.length)/\(∀x∈l.take i,(x.length:Int)<=left)) ((0,left-l.length)) ⟨(by omega),(by omega),(by simp)⟩ ?_;rintro⟨i,L⟩ ⟨h1,h2,h3⟩;simp[go_sem];apply gw<;>intro a
  ·obtain⟨c,hc⟩:=aC (l:=l) (i:=i) (by omega);have hcl:=hl.2 c (List.mem_of_getElem? hc);simp[go_sem,hc];refine ai ?_;apply gw<;>intro b
   ·simp[go_sem];omega
   ·simp at b;simp[go_sem];refine ai ?_;refine nx (i+1,L-c.length) ⟨(by omega),(by omega),(by rw[aU hc];intro x hx;rcases List.mem_append.1 hx with hx|hx;(exact h3 x hx);(obtain rfl:=List.mem_singleton.1 hx;omega))⟩
  ·simp at a;have hfit:akX l left:=⟨by omega,by rwa [aK (by omega)]at h3⟩;simp[go_sem,hfit];refine ai ?_;omega
theorem R6 (r:Rec)(left:Int)(hl:auU r.fields)(h0:0<=left/\left<=1048576):bK prog 84 [vG r,dI left] (fun x=>∃v:Int,x= .val (dI v)/\(-1<=v/\v<=left)/\(0<=v->akX r.fields left)):=by
 refine fE good [] func84 ntmps84 fun _ _=> ?_;simp[go_sem];refine bC (NT r.fields left hl h0) (by simp[go_sem]) ?_;rintro r ⟨v,rfl,hv,hf⟩;refine⟨by simp[go_sem],?_⟩;simp[go_sem];apply gw<;>intro b
 ·simp[go_sem];omega
 ·simp at b;have hfit:=hf (by omega);simp[go_sem,hfit];refine ai ?_;omega
theorem OX (l:List Rec)(left:Int)(hl:as2 l)(h0:0<=left/\left<=1048576):bK prog 38 [iL l,dI left] (fun r=>∃v:Int,r= .val (dI v)/\(-1<=v/\v<=left)/\(0<=v->aB8 l left)):=by
 refine fE good [] func38 ntmps38 fun _ _=> ?_;have hl1:=hl.1;simp[go_sem];refine ai ?_;apply gw<;>intro e
 ·simp[go_sem];omega
 ·simp at e;simp[go_sem];refine wl good (fun((i,L):(Nat)×(Int))=>[(0,.val (iL l)),(1,.val (dI L)),(5,.val (dI i))]) (fun(i,L)=>l.length-i) (fun(i,L)=>(i<=l.length)/\(0<=L/\L<=left-l.length)/\(∀o∈l.take i,akX o.fields left)) ((0,left-l.length)) ⟨(by omega),(by omega),(by simp)⟩ ?_;rintro⟨i,L⟩ ⟨h1,h2,h3⟩;simp[go_sem];apply gw<;>intro a
  ·obtain⟨c,hc⟩:=aC (l:=l) (i:=i) (by omega);have hcl:=hl.2 c (List.mem_of_getElem? hc);simp[go_sem,hc];refine bC (R6 c L hcl (by omega)) (by simp[go_sem]) ?_;rintro r ⟨v,rfl,hv,hf⟩;refine⟨by simp[go_sem],?_⟩;simp[go_sem];apply gw<;>intro b
   ·simp[go_sem];omega
   ·simp at b;have hfc:=apP (hf (by omega)) (show L<=left by omega);simp[go_sem];refine ai ?_;refine nx (i+1,v) ⟨(by omega),(by omega),(by rw[aU hc];intro x hx;rcases List.mem_append.1 hx with hx|hx;(exact h3 x hx);(obtain rfl:=List.mem_singleton.1 hx;exact hfc))⟩
  ·simp at a;have hfit:aB8 l left:=⟨by omega,by rwa [aK (by omega)]at h3⟩;simp[go_sem,hfit];refine ai ?_;omega
end Go.Proofs.YtemiopbofamgcaaGreatDoor
end
section
namespace Go.Dv
open Go.RowKit Go.ChangeShapes
variable {b:Nat}{v:Value}
variable {C:Array Value}
variable {o:Nat}
variable {n:Nat}
variable {fs:Array Field}
section
variable {H:Type}{enc:TypeId×Value->H}{P:Program}{W:World}{t e:TypeId}{cs:List Value}{k:Nat}
def Tr (enc:TypeId×Value->H)(P:Program)(W:World)(t:TypeId)(cs:List Value):Prop:=∃fuel x,DataW.trod enc P W 0 (fun _=>true) true fuel t cs=some x
def Rd (P:Program)(W:World)(d:D)(cs:List Value):Prop:=∀l,R P W (fun _=>none) d l cs
theorem open_int (ht:P.underlying t=some (.int .i64))(h:Tr enc P W t cs):∃n,Rd P W (dI n) cs:=by
 obtain⟨f,x,h⟩:=h;obtain⟨n,rfl,_⟩:=DataW.trod_int ht h;exact⟨n,fun l=>by simp[R,Value.oneCell']⟩
theorem open_bool (ht:P.underlying t=some .bool)(h:Tr enc P W t cs):∃b,Rd P W (dB b) cs:=by
 obtain⟨f,x,h⟩:=h;obtain⟨n,rfl,_⟩:=DataW.trod_bool ht h;exact⟨n,fun l=>by simp[R,Value.oneCell']⟩
theorem aq9 (ht:P.underlying t=some .string)(h:Tr enc P W t cs):∃s:Str,s.length<=9223372036854775807/\Rd P W (dS s) cs:=by
 obtain⟨f,x,h⟩:=h;obtain⟨n,rfl,_,hz⟩:=DataW.trod_string ht h;obtain⟨s,rfl⟩:∃s:Str,n=⟨s.toArray⟩:=⟨n.data.toList,by rw[←aDZ n]⟩;rw[aeM]at hz;have h2:maxLen=9223372036854775807:=rfl;exact⟨s,by omega,fun l=>by simp only[R];exact⟨trivial,rfl⟩⟩
theorem pO (ht:P.underlying t=some (.struct fs))(h:Tr enc P W t cs)(i:Nat)(f:Field)(hf:fs[i]?=some f)(o k:Nat)(ho:f.offset=o)(hk:P.cellsOf f.type=k):
  Tr enc P W f.type ((cs.drop o).take k):=by
 obtain⟨fu,x,h⟩:=h;obtain⟨xs,n,_,_,_,hlen,hfs⟩:=DataW.trod_struct ht h;have h1:=hfs i f hf;have h2:i<xs.length:=by rw[hlen];exact(Array.getElem?_eq_some_iff.1 hf).1
 rw[ho,hk]at h1;exact⟨n,xs[i],by rw[h1];simp[h2]⟩
theorem pY (ht:P.underlying t=some (.struct fs))(hn:P.cellsOf t=n)(h:Tr enc P W t cs):cs.length<=n:=by
 obtain⟨fu,x,h⟩:=h;obtain⟨xs,m,_,_,hl,_,_⟩:=DataW.trod_struct ht h;omega
theorem zY (h:cs.length<=n)(l:List Nat)(i:Nat):Ra P W (fun _=>none) [] l i (cs.drop n):=by
 simp only[Ra];exact List.drop_eq_nil_of_le h
theorem dL {x:D}{xs:List D}{k:Nat}(h1:Rd P W x ((cs.drop o).take k))(h2:∀l i,Ra P W (fun _=>none) xs l i (cs.drop (o+k)))(l:List Nat)(i:Nat):Ra P W (fun _=>none) (x::xs) l i (cs.drop o):=by
 simp only[Ra];exact⟨_,_,by rw[←List.drop_drop];exact(List.take_append_drop k (cs.drop o)).symm,(h1 []).len,h1 _,h2 _ _⟩
theorem AB {xs:List D}(h:∀l i,Ra P W (fun _=>none) xs l i (cs.drop 0)):Rd P W (.agg xs) cs:=fun l=>by
 simp only[R];exact h l 0
theorem aAB :∀(xs:List D) (l:List Nat) (i0 off:Nat),(∀i y,xs[i]?=some y->∃vs:List Value,vs.length=k/\(∀j,j<k->C[off+i*k+j]?=vs[j]?)/\Rd P W y vs)->Rs P W (fun _=>none) xs l i0 C off k
 |[],_,_,_,_=>by simp only[Rs]
 |x::xs,l,i0,off,h=>by
  obtain⟨vs,h1,h2,h3⟩:=h 0 x rfl;simp only[Rs];refine⟨vs,?_,h1,fun j hj=>by simpa using h2 j hj,h3 _,aAB xs l (i0+1) (off+k) fun i y hy=> ?_⟩
  ·rw[←(h3 []).len];exact h1
  ·obtain⟨vs,h1,h2,h3⟩:=h (i+1) y (by simpa using hy);exact⟨vs,h1,fun j hj=>by have:=h2 j hj;rwa [show off+k+i*k+j=off+(i+1)*k+j by rw[Nat.succ_mul];omega],h3⟩
theorem aoK {e:TypeId}{fz:Nat×Nat}(hh:W.heap[b]?=some (.cells C e fz))(h:W.cell? ⟨b,o,none⟩=some v):C[o]?=some v:=by
 unfold World.cell? at h;simpa[hh]using h
theorem ao0 (h:W.cell? ⟨b,o,none⟩=some v):∃C e fz,W.heap[b]?=some (.cells C e fz):=by
 unfold World.cell? at h;split at h
 ·rename_i C e fz hh;exact⟨C,e,fz,hh⟩
 ·simp at h
theorem DX {α:Type}{f:α->D}{Q:α->Prop}(ht:P.underlying t=some (.slice e)) (hk:P.cellsOf e=k) (hk0:0<k)
  (hR:∀vs,Tr enc P W e vs->∃y,Q y/\Rd P W (f y) vs) (h:Tr enc P W t cs):
  ∃ys:List α,(ys.length<=9223372036854775807/\∀y∈ys,Q y)/\Rd P W (.sl none (ys.map f)) cs:=by
 obtain⟨fu,x,h⟩:=h;have h9:maxLen=9223372036854775807:=rfl;rcases DataW.trod_slice ht h with⟨rfl,_⟩|⟨a,len,cap,elems,rest,n,_,rfl,_,_,hl,hm,hlen,hel,_,_⟩
 ·exact⟨[],⟨by simp,by simp⟩,fun l=>by simp only[R];exact⟨none,0,rfl,by simp,by omega,.inl ⟨rfl,rfl,rfl⟩⟩⟩
 ·have each:∀i:Fin len,∃y:α,∃vs:List Value,Q y/\vs.length=k/\(∀j,(hj:j<vs.length)->W.cell? ((a.add (i.1*k)).add j)=some vs[j])/\Rd P W (f y) vs:=by
   intro i;have h1:=hel i.1 i.2;have h2:i.1<elems.length:=by rw[hlen];exact i.2
   rw[hk,List.getElem?_eq_getElem h2]at h1;obtain⟨vs,hvs,htr⟩:=Option.bind_eq_some_iff.1 h1;obtain⟨y,hq,hy⟩:=hR _ ⟨_,_,htr⟩
   have hc:(List.range k).mapM (fun j=>W.cell? ((a.add (i.1*k)).add j))=some vs:=by
    unfold World.cells? at hvs;rw[if_pos (Nat.zero_le _)]at hvs;exact hvs
   have hvl:vs.length=k:=by rw[mapM_some_length hc,List.length_range]
   refine⟨y,vs,hq,hvl,fun j hj=> ?_,hy⟩;have h3:=mapM_some_get hc j j (by rw[List.getElem?_range (by omega)]);rw[h3];simp[hj]
  obtain⟨g,hg⟩:=Classical.axiomOfChoice each;refine⟨List.ofFn g,⟨by simp;omega,fun y hy=> ?_⟩,fun l=> ?_⟩
  ·obtain⟨i,rfl⟩:=List.mem_ofFn.1 hy;exact(hg i).choose_spec.1
  ·simp only[R];refine⟨some a,cap,by simp,by simp;omega,hm,?_⟩;by_cases h0:len=0
   ·refine .inr (.inl ⟨by simp,?_⟩);apply List.eq_nil_of_length_eq_zero;simp[h0]
   ·obtain⟨vs0,_,g1,g2,_⟩:=hg ⟨0,by omega⟩;have hs:=World.cell?_spot (g2 0 (by omega));obtain⟨b,o,sp⟩:=a;obtain rfl:sp=none:=by simpa[Addr.add]using hs
    obtain⟨C,e',fz,hh⟩:=ao0 (by simpa[Addr.add]using g2 0 (by omega));refine .inr (.inr ⟨b,o,k,C,e',fz,rfl,hh,by simp,by simp,aAB _ _ _ _ fun i y hy=> ?_⟩);rw[List.getElem?_map,Option.map_eq_some_iff]at hy;obtain⟨y',hy,rfl⟩:=hy;obtain⟨hi,rfl⟩:=List.getElem?_eq_some_iff.1 hy;rw[List.getElem_ofFn];obtain⟨vs,_,h1,h2,h3⟩:=hg ⟨i,by simpa using hi⟩;refine⟨vs,h1,fun j hj=> ?_,h3⟩;have h5:=h2 j (by omega);rw[Addr.add_lit,Addr.add_lit]at h5;rw[aoK hh h5,List.getElem?_eq_getElem (by omega)]
theorem aD0 {xs:List D}{cs:Array Value}(h:Rd P W (.agg xs) cs.toList):V P W (fun _=>none) (.agg xs) [] (.agg cs):=by
 simp only[V];exact⟨cs,rfl,h []⟩
end
end Go.Dv
end
section
namespace Go.Dv
open Go.RowKit Go.Pl
variable [fH]
theorem fMs {P:Program}{T:TypeId->TyE}{f:FuncId}{fn:Func}{c:Code}{n:Nat}{rs:List ResultVar}{ds:List D}{m:Nat}{dm:D}{Q:S->D->Prop}(hG:∀t,Good P T t) (sp:List Nat) (hf:P.funcs[f]?=some fn) (hn':fn.ntmps=n) (h:∀w0 ow0 v,@lH _ P T n w0 ow0 (some (m,v)) sp ⟨c⟩ ((eT ds).put m (.own dm)) ⟨az0 T rs m Q⟩)
  (hb:fn.body=some c:=by rfl) (hr:fn.results=rs.toArray:=by rfl) (hd':∀v,noC (some (m,v)) c=true:=by intro;rfl) (hn:n<=1000000:=by decide) (hd:ds.length<=n:=by simp):FK P f ds m dm Q:=avP hG hf hb hn' hn hd hr fun w0 ow0 v=>h w0 ow0 v (hd' v)
end Go.Dv
end
section
namespace Go.Dv
open Go.RowKit
variable [fH]
inductive OT where
 |fin
 |no
 |st (i:Nat) (t alt:OT)
def OT.heads:OT->List Nat
 | .st i _ alt=>i::alt.heads
 |_=>[]
def OT.depth:OT->Nat
 | .st _ t alt=>max (t.depth+1) alt.depth
 |_=>0
def OT.cov (md:Region.Mode)(ops:Array Oper)(listed:Array Bool)(t:OT):Bool:=match t with
 | .no=>false
 |t=>(Region.ready md ops listed).all fun i=>t.heads.contains i
def OT.ok (md:Region.Mode)(ops:Array Oper):OT->Array Bool->Bool
 | .fin,_=>true
 | .no,_=>true
 | .st i t alt,l=>(Region.ready md ops l).contains i&&t.cov md ops (l.setIfInBounds i true)&&t.ok md ops (l.setIfInBounds i true)&&alt.ok md ops l
section
variable {P:Program}{T:TypeId->TyE}{n:Nat}{ops:Array Oper}{md:Region.Mode}{ft:List (Nat×List Nat)}
def QT (P:Program)(T:TypeId->TyE)(n:Nat)(ft:List (Nat×List Nat))(ops:Array Oper)(AK:List Nat):OT->St->(St->Prop)->Prop
 | .fin,s,K=>K s
 | .no,_,_=>True
 | .st i t alt,s,K=>(match ops[i]? with
  |some o=>QF P T n ft [] ops [o] i AK s (fun s'=> @frK s' ⟨fun s'=>QT P T n ft ops AK t s' K⟩)
  |none=>False)/\QT P T n ft ops AK alt s K
end
section
variable {P:Program}{T:TypeId->TyE}{n:Nat}{w0:World}{ow0:Own}{p:Pin}{sp:List Nat}{s:St}{K:Exit->St->Prop}
end
attribute [go_sem] QT
variable {l2:List Oper}
variable {o:Oper}{i:Nat}{Q:Exit->Act->World->Prop}{a:Act}
section
variable {P:Program}{T:TypeId->TyE}{n:Nat}{ops:Array Oper}{md:Region.Mode}{p:Pin}{w0:World}{ow0:Own}
def QO (P:Program)(T:TypeId->TyE)(n:Nat)(ops:Array Oper):OT->St->(St->Prop)->Prop
 | .fin,s,K=>K s
 | .no,_,_=>True
 | .st i t alt,s,K=>(match ops[i]? with
  |some o=>vcL P T n ops [o] s (fun s'=> @frK s' ⟨fun s'=>QO P T n ops t s' K⟩)
  |none=>False)/\QO P T n ops alt s K
theorem aCV (ho:ops[i]?=some o) {s:St}{K:St->Prop}{F:Act->World->Prop}(hd:kM p o=true) (h:OkL P n w0 ow0 ops [o] s K) {w:World}(hR:Rel P n w0 ow0 s a w) (hp:Pinned p a)
  (hF:∀s' a' w',K s'->Rel P n w0 ow0 s' a' w'->Pinned p a'->F a' w'):wpOp P ops Q i F a w:=by
 have hg:=JR hR h;unfold wpOp;rw[ho];simp only;split
 ·rename_i hw;rw[if_pos hw]at hg;have h1:=hg a w hR (fun a' w'=>∃s',OkL P n w0 ow0 ops [] s' K/\Rel P n w0 ow0 s' a' w') Q fun s' a' w' hK hR'=>⟨s',hK,hR'⟩;exact .inl (Oper.wp_mono (fun a' w' hh=>by obtain⟨⟨s',hK,hR'⟩,hp'⟩:=hh;exact hF s' a' w' hK hR' hp') (RP hp hd h1))
 ·rename_i hw;rw[if_neg hw]at hg;obtain⟨ow,hf⟩:=hR;exact hF _ _ w hg.2 ⟨ow,hf.aBJ hg.1⟩ (hp.put hd)
theorem aED (hG:∀t,Good P T t)(hd:∀o∈ops.toList,kM p o=true){K:St->Prop}(hQ:∀s' a' w',K s'->Rel P n w0 ow0 s' a' w'->Pinned p a'->Q .normal a' w'):∀(t:OT),
  (∀(listed:Array Bool) (s:St) (a:Act) (w:World) (fuel:Nat),t.ok md ops listed=true->t.depth<=fuel+1->QO P T n ops t s K->Rel P n w0 ow0 s a w->Pinned p a->∀i∈t.heads,wpOp P ops Q i (wpAny P md ops Q fuel (listed.setIfInBounds i true)) a w)/\
  (∀(listed:Array Bool) (s:St) (a:Act) (w:World) (fuel:Nat),t.cov md ops listed=true->t.ok md ops listed=true->t.depth<=fuel->QO P T n ops t s K->Rel P n w0 ow0 s a w->Pinned p a->wpAny P md ops Q fuel listed a w):=by
 intro t
 induction t with
 |fin=>
  refine⟨fun _ _ _ _ _ _ _ _ _ _ i hi=>by simp[OT.heads]at hi,fun listed s a w fuel hc _ _ h hR hp=> ?_⟩
  have h0:Region.ready md ops listed=[]:=by
   cases hr:Region.ready md ops listed with
   |nil=>rfl
   |cons x l=>simp[OT.cov,OT.heads,hr]at hc
  cases fuel with
  |zero=>exact⟨h0,hQ s a w h hR hp⟩
  |succ fuel=>exact⟨fun _=>hQ s a w h hR hp,fun i hi=>by rw[h0]at hi;cases hi⟩
 |no=>exact⟨fun _ _ _ _ _ _ _ _ _ _ i hi=>by simp[OT.heads]at hi,fun _ _ _ _ _ hc=>by simp[OT.cov]at hc⟩
 |st j t alt iht iha=>
  have hAA:∀(listed:Array Bool) (s:St) (a:Act) (w:World) (fuel:Nat),(OT.st j t alt).ok md ops listed=true->(OT.st j t alt).depth<=fuel+1->QO P T n ops (.st j t alt) s K->Rel P n w0 ow0 s a w->Pinned p a->∀i∈(OT.st j t alt).heads,wpOp P ops Q i (wpAny P md ops Q fuel (listed.setIfInBounds i true)) a w:=by
   intro listed s a w fuel hok hdp h hR hp i hi;simp only[OT.ok,Bool.and_eq_true]at hok;simp only[OT.depth]at hdp;unfold QO at h;simp only[OT.heads,List.mem_cons]at hi;by_cases hij:i=j
   ·subst hij;have h1:=h.1;cases ho:ops[i]? with
    |none=>rw[ho]at h1;exact h1.elim
    |some o=>
     rw[ho]at h1
     have hm:o∈ops.toList:=by
      obtain⟨hlt,he⟩:=Array.getElem?_eq_some_iff.1 ho;rw[←he];simp
     exact aCV ho (hd o hm) (vN hG _ _ _ h1) hR hp fun s' a' w' hK hR' hp'=>iht.2 _ s' a' w' fuel hok.1.1.2 hok.1.2 (by omega) hK hR' hp'
   ·exact iha.1 listed s a w fuel hok.2 (by omega) h.2 hR hp i (hi.resolve_left hij)
  refine⟨hAA,fun listed s a w fuel hc hok hdp h hR hp=> ?_⟩;cases fuel with
  |zero=>simp[OT.depth]at hdp
  |succ fuel=>
   refine⟨fun h0=> ?_,fun i hi=> ?_⟩
   ·simp only[OT.ok,Bool.and_eq_true]at hok;have:=hok.1.1.1;rw[h0]at this;simp at this
   ·simp only[OT.cov,List.all_eq_true]at hc;exact hAA listed s a w fuel hok hdp h hR hp i (by simpa using hc i hi)
def aAY (hs:List Nat)(t:OT)(ops:Array Oper):Bool:=
 Region.noSelect ops&&IW .any ops hs (Array.replicate ops.size false)&&
 t.cov .any ops (MX hs (Array.replicate ops.size false))&&t.ok .any ops (MX hs (Array.replicate ops.size false))&&decide (t.depth+hs.length=ops.size)
theorem auE (hG:∀t,Good P T t) {s:St}{K:Exit->St->Prop}{id:Nat}{hs:List Nat}{t:OT}(hm:P.follows .mixedOrders=true) (hB:aAY hs t ops=true)
  (h:QM P T n ops hs s fun s'=>QO P T n ops t s' (fun s'=>K .normal s')) (hd:kJ p ops.toList=true):OkC P n w0 ow0 p (.region id ops true) s K:=by
 simp only[aAY,Bool.and_eq_true,decide_eq_true_eq]at hB;obtain⟨⟨⟨⟨hB1,hB2⟩,hB4⟩,hB5⟩,hB8⟩:=hB;intro a w hR hp Q hQ;refine wp_mono (Q:=fun e a w=>match e with| .normal=>Q .normal a w|_=>False) ?_ fun e a w he=>(by cases e<;>first|exact he|exact he.elim);have hR2:Rel P n w0 ow0 s a {w with drawn:=w.drawn+1}:=by obtain⟨ow,hf⟩:=hR;exact⟨ow,hf.drew⟩
 refine wp_region_any hm ?_;obtain⟨s1,a1,g1,g3,g4,g5⟩:=XY (md:= .any) (ops:=ops) (Q:=fun e a w=>match e with| .normal=>Q .normal a w|_=>False) hG (fun c a w h=>h) (noSelect_spec hB1) (kJ.one hd) hs _ _ _ hB2 h hR2 hp;have g6:=g5 t.depth;rw[hB8]at g6;refine g6 ?_;exact(aED (md:= .any) hG (kJ.one hd) (K:=fun s'=>K .normal s') (Q:=fun e a w=>match e with| .normal=>Q .normal a w|_=>False) (fun s' a' w' hK hR' hp'=>hQ _ _ _ _ hK hR' hp') t).2 _ s1 a1 _ _ hB4 hB5 (Nat.le_refl _) g1 g3 g4
theorem wdx (hG:∀t,Good P T t) {sp:List Nat}{s:St}{K:Exit->St->Prop}(hs:List Nat) (t:OT) (h:QM P T n ops hs s fun s'=>QO P T n ops t s' (fun s'=> @H6 s' ⟨K⟩))
  (hB:aAY hs t ops=true:=by kernel_rfl) (hm:P.follows .mixedOrders=true:=by rfl): @lH _ P T n w0 ow0 p sp ⟨.region i ops true⟩ s ⟨K⟩:=fun hd=>auE hG hm hB h hd
theorem IJ :∀(l:List Oper) (s:St) (K:St->Prop),OkL P n w0 ow0 ops l s K->(∀o∈l,kM p o=true)->∀a w,Rel P n w0 ow0 s a w->Pinned p a->(∀s' a' w',K s'->Rel P n w0 ow0 s' a' w'->Pinned p a'->wpList P ops Q l2 a' w')->wpList P ops Q (l++l2) a w
 |[],s,K,h,_,a,w,hR,hp,hQ=>hQ s a w h hR hp
 |o::l,s,K,h,hd,a,w,hR,hp,hQ=>by
  have hg:=JR hR h;rw[List.cons_append];unfold wpList;split
  ·rename_i hw;rw[if_pos hw]at hg;have h1:=hg a w hR (fun a' w'=>∃s',OkL P n w0 ow0 ops l s' K/\Rel P n w0 ow0 s' a' w') Q fun s' a' w' hK hR'=>⟨s',hK,hR'⟩;exact .inl (Oper.wp_mono (fun a' w' hh=>by obtain⟨⟨s',hK,hR'⟩,hp'⟩:=hh;exact IJ l s' K hK (fun o ho=>hd o (List.mem_cons_of_mem _ ho)) a' w' hR' hp' hQ) (RP hp (hd o (by simp)) h1))
  ·rename_i hw;rw[if_neg hw]at hg;obtain⟨ow,hf⟩:=hR;exact IJ l _ K hg.2 (fun o ho=>hd o (List.mem_cons_of_mem _ ho)) _ w ⟨ow,hf.aBJ hg.1⟩ (hp.put (hd o (by simp))) hQ
theorem wtc (hG:∀t,Good P T t){sp:List Nat}{s:St}{K:Exit->St->Prop}(m:Nat)(ts:List Nat)(h:vcL P T n ops (ops.toList.take m) s (fun s'=>vcL P T n ops (ops.toList.drop m) (s'.zL ts) (fun s2=> @H6 s2 ⟨K⟩))):
  @lH _ P T n w0 ow0 p sp ⟨.region i ops false⟩ s ⟨K⟩:=fun hd a w hR hp Q hQ=>wp_region_list (by
 have hd':kJ p ops.toList=true:=hd
 have:=IJ (Q:=Q) (l2:=ops.toList.drop m) (ops.toList.take m) s _ (vN hG _ _ _ h) (fun o ho=>kJ.one hd' o (List.mem_of_mem_take ho)) a w hR hp fun s' a' w' hK hR' hp'=>
  OkL.wp _ _ _ (vN hG _ _ _ hK) (fun o ho=>kJ.one hd' o (List.mem_of_mem_drop ho)) a' w' ((GQ ts).rel hR') hp' fun s2 a2 w2 hK2 hR2 hp2=>hQ _ _ _ _ hK2 hR2 hp2
 rwa [List.take_append_drop]at this)
end
attribute [go_sem] QO
section
variable {P:Program}{T:TypeId->TyE}{n:Nat}{ops:Array Oper}{p:Pin}{w0:World}{ow0:Own}
theorem Ok.mono {s:St}{K K':St->Prop}(h:Ok P n w0 ow0 o s K)(hK:∀s',K s'->K' s'):Ok P n w0 ow0 o s K':=fun a w hR next Q hn=>h a w hR next Q fun s' a' w' hk hR'=>hn s' a' w' (hK s' hk) hR'
theorem aEY (hG:∀t,Good P T t) {sp:List Nat}{s:St}{K:Exit->St->Prop}(m:Nat) (ho:ops.toList.drop m=o::l2) (hg:o.guard=none)
  {K1:St->Prop}(h:vcL P T n ops (ops.toList.take m) s K1) (hK1:∀s1,K1 s1->Ok P n w0 ow0 o s1 (fun s2=>vcL P T n ops l2 s2 (fun s3=> @H6 s3 ⟨K⟩))):
  @lH _ P T n w0 ow0 p sp ⟨.region i ops false⟩ s ⟨K⟩:=fun hd a w hR hp Q hQ=>wp_region_list (by
 have hd':kJ p ops.toList=true:=hd
 have:=IJ (Q:=Q) (l2:=ops.toList.drop m) (ops.toList.take m) s _ (vN hG _ _ _ h) (fun o ho=>kJ.one hd' o (List.mem_of_mem_take ho)) a w hR hp fun s' a' w' hK hR' hp'=>by
  refine OkL.wp (ops.toList.drop m) s' (fun s3=> @H6 s3 ⟨K⟩) ?_ (fun o ho=>kJ.one hd' o (List.mem_of_mem_drop ho)) a' w' hR' hp' fun s2 a2 w2 hK2 hR2 hp2=>hQ _ _ _ _ hK2 hR2 hp2;rw[ho];unfold OkL gK;rw[hg];exact(hK1 s' hK).mono fun s2 h2=>vN hG _ _ _ h2
 rwa [List.take_append_drop]at this)
end
variable {o1 o2:Oper}{lo:Operand}{u:Nat}
variable {x:Operand}
variable {w':World}
variable {t:TypeId}
variable {zv:Value}
variable {ow:Own}{e:TypeId}{j:Nat}
variable {v:Value}
section
variable {P:Program}{T:TypeId->TyE}{n:Nat}{ops:Array Oper}{p:Pin}{w0:World}{ow0:Own}
theorem aaP {z:Array Value}{n:Nat}(h:v∈(Builtin.zeroCells z n).toList)(hz:0<z.size):v∈z.toList:=by
 simp only[Builtin.zeroCells,Array.toList_map,List.mem_map,Array.toList_range]at h;obtain⟨i,_,rfl⟩:=h;have hm:i % z.size<z.size:=Nat.mod_lt _ hz;rw[getElem!_pos z _ hm];simp
theorem R.awH {w:World}{xs:List D}{l:List Nat}{b cap s:Nat}{i:TypeInfo}{C:Array Value}{fz:Nat×Nat}{vs:List Value}(hb:w.heap[b]?=some (.cells C e fz)) (hone:∀v∈vs,v.oneCell'=true)
  (ho:ow b=some l) (hU:adT fz C.size) (hC:C.size=cap*s) (hi:P.info? e=some i) (his:i.size=s) (hrow:Rs P w ow xs l 0 C 0 s) (hc1:xs.length<=cap) (hc2:cap<=maxLen) (hj:j<=xs.length) (hv:vs.length=(xs.length-j)*s):
  R P (w.setRow b (C.toList.take (j*s)++vs++C.toList.drop (j*s+vs.length)).toArray) ow (.sl (some e) (xs.take j++List.replicate (xs.length-j) (.any s))) l [.slice (some ⟨b,0,none⟩) xs.length cap]:=by
 have hfit:j*s+vs.length<=C.size:=by
  rw[hv,hC,←Nat.add_mul];exact Nat.mul_le_mul_right _ (by omega)
 obtain⟨hw,hb',hcs⟩:=Wr.setRow (o:=j*s) (vs:=vs) hb hfit;have hlen:(xs.take j++List.replicate (xs.length-j) (D.any s)).length=xs.length:=by simp;omega
 have hr:=(Rs.iff hb).1 hrow;simp only[R];refine⟨_,_,by rw[hlen],by omega,hc2,.inr (.inr ⟨b,0,s,_,e,fz,rfl,hb',(fun h=>by cases h),(fun t ht=> ?_),(Rs.iff hb').2 fun k x hx=> ?_⟩)⟩
 ·obtain rfl:=Option.some.inj ht;have hsz:(C.toList.take (j*s)++vs++C.toList.drop (j*s+vs.length)).toArray.size=C.size:=by simp;omega
  exact⟨ho,rfl,by rw[hsz];exact hU,rfl,by rw[hsz];exact hC,i,hi,his⟩
 ·by_cases hk:k<j
  ·rw[List.getElem?_append_left (by simp;omega),List.getElem?_take,if_pos hk]at hx;obtain⟨g1,g2⟩:=hr k x hx;refine⟨g1,g2.frame hw ⟨by rw[ho];simp,fun q e=> ?_⟩ ?_⟩
   ·rw[ho]at e;exact suffix_absurd (Option.some.inj e)
   ·first
     |exact .inr (.inr (by simp only[Nat.zero_add];rw[g1];have:=Nat.mul_le_mul_right s (show k+1<=j by omega);rw[Nat.add_mul]at this;omega))
     |exact .inr (.inl (by simp only[Nat.zero_add];rw[g1];have:=Nat.mul_le_mul_right s (show k+1<=j by omega);rw[Nat.add_mul]at this;omega))
  ·have hkl:k<xs.length:=by have:=(List.getElem?_eq_some_iff.1 hx).1;rw[hlen]at this;exact this
   rw[List.getElem?_append_right (by simp;omega),List.getElem?_replicate]at hx;split at hx
   ·obtain rfl:=Option.some.inj hx
    have hm:(k-j)*s+s<=vs.length:=by
     rw[hv];have:=Nat.mul_le_mul_right s (show k-j+1<=xs.length-j by omega);rw[Nat.add_mul]at this;omega
    refine⟨rfl,_,_,_,(vs.drop ((k-j)*s)).take s,hb',fun m hm2=> ?_,?_⟩
    ·have hm2:m<s:=hm2;have h1:=hcs ((k-j)*s+m) (by omega);rw[List.getElem?_take,if_pos hm2,List.getElem?_drop];rw[←h1];congr 1;have:k*s=j*s+(k-j)*s:=by rw[←Nat.add_mul];congr 1;omega
     omega
    ·simp only[R];refine⟨by simp;omega,fun v hv2=>hone v (List.mem_of_mem_drop (List.mem_of_mem_take hv2))⟩
   ·cases hx
theorem av4 {w:World}{i:TypeInfo}(hi:P.info? e=some i)(hz:i.zero=some zv):(zeroValue e).run P w= .ok zv w:=by simp[zeroValue,typeInfo,hi,hz]
theorem ai8 {w:World}{ty:TypeId}(ht:P.underlying t=some (.slice e))(a:Option Addr)(cap:Nat):(Builtin.clear_ #[t] ty #[.slice a 0 cap]).run P w= .ok (.tuple #[]) w:=by
 cases a<;>simp[Builtin.clear_,run_underlying ht]
theorem ajK {w:World}{ty:TypeId}(ht:P.underlying t=some (.slice e))(hz:(zeroValue e).run P w= .ok zv w)(a:Addr)(n cap:Nat)(hn:n≠0)(h:(storeCells a (Builtin.zeroCells zv.cells n).toList).run P w= .ok () w'):(Builtin.clear_ #[t] ty #[.slice (some a) n cap]).run P w= .ok (.tuple #[]) w':=by
 obtain⟨m,rfl⟩:∃m,n=m+1:=⟨n-1,by omega⟩;simp[Builtin.clear_,run_underlying ht,hz,h]
theorem YS {w:World}(ho:o.op= .call {callee:= .builtin .clear,args:= #[x],argTypes:= #[t]})(hv:a.eval x=v)(h:∀ty,(Builtin.clear_ #[t] ty #[v]).run P w= .ok (.tuple #[]) w'):(execOp a.eval o).run P w= .ok (.value (.tuple #[])) w':=by
 unfold execOp;rw[ho];have h0:=fun ty=>h ty;simp[resolve,invoke,builtin,hv,h0]
theorem avQ (hG:∀t,Good P T t) {s:St}{K:St->Prop}{r:Nat}{k:IntKind}{xs:List D}(ht:(T t).ty= .sl e) (he:(T e).ok=true) (hew:0<(T e).w) (hg1:o1.guard=none) (hg2:o2.guard=none)
  (ho1:o1.op= .slice t x (some lo) none none) (hd1:o1.dst=some u) (hu:u<n) (ho2:o2.op= .call {callee:= .builtin .clear,args:= #[.tmp u],argTypes:= #[t]}) (hd2:∀v,o2.dst=some v->v<n/\v≠r) (hur:u≠r)
  (hx:evS s x= .al r []) (hs:s r= .own (.sl (some e) xs)) (hlo:evS s lo= .val (.one (.int k j))) (hj:j<=xs.length) (hn1:kM p o1=true) (hn2:kM p o2=true)
  (hK:K ((((s.set u .un).kill r).put r (.own (.sl (some e) (xs.take j++List.replicate (xs.length-j) (.any (T e).w))))).dN o2.dst (.tup [])))
  {w:World}(hR:Rel P n w0 ow0 s a w) (hp:Pinned p a) (hQ:∀s' a' w',K s'->Rel P n w0 ow0 s' a' w'->Pinned p a'->Q .normal a' w'):wpList P ops Q [o1,o2] a w:=by
 obtain⟨ow,hf⟩:=hR;have hsl:=(hG t).desc ht (by simp);obtain⟨_,i,zv,hi,his,hz,hflat,_,_,_,hzw⟩:=(hG e).of (fun y hy e2=>by subst e2;unfold TyE.ok at he;rw[hy]at he;cases he);have hu6:u<1000000:=Nat.lt_of_lt_of_le hu hf.small
 have hval:a.eval x=aval a r:=by
  have hv:=hf.eval x;rw[hx]at hv;obtain⟨_,_,_,_,_,h4⟩:=hv;rcases h4 with⟨_,h4⟩|⟨b,off,h4,_⟩
  ·exact h4
  ·simp[loc]at h4
 have hV:=hf.slot r;rw[hs]at hV;simp only[SV,V,R]at hV;obtain⟨ad,cap,hv,hc1,hc2,h4⟩:=hV;have hv:aval a r= .slice ad xs.length cap:=by simpa using hv
 have hlov:a.eval lo= .int k j:=(hf.one hlo).1;obtain⟨v1,hv1⟩:∃v1,v1=Value.slice (if cap=j then ad else ad.map (·.add (j*i.size))) (xs.length-j) (cap-j):=⟨_,rfl⟩
 have hrun1:(execOp a.eval o1).run P w= .ok (.value v1) w:=by
  unfold execOp;rw[ho1];simp only[hval,hv,Instr.sliceAt,Instr.slice,Sem.run_bind,run_underlying hsl w,Result.andThen_ok,Option.map_none];have hbr:=MP (P:=P) (w:=w) (a:=a) (lo:=some lo) (hi:=none) (isS:=true) (len:=xs.length) (cap:=cap) (.inr ⟨lo,k,j,rfl,hlov,by omega,Int.toNat_natCast j⟩) (.inl ⟨rfl,rfl⟩) hj hc1;simp only[Option.map_none]at hbr;rw[hbr];simp only[Result.andThen_ok,uT hi w,Sem.run_pure,hv1]
 have hf1:Fits P n w0 ow0 ow (s.set u .un) (a.put (some u) v1) w:=hf.set hu trivial;have hp1:Pinned p (a.put (some u) v1):=by rw[←hd1];exact hp.put hn1
 have hev:(a.put (some u) v1).eval (.tmp u)=v1:=by simp[Act.eval,Act.put,hf.size,hu]
 have hav:aval (a.put (some u) v1) r= .slice ad xs.length cap:=by rw[rJ hf.size hf.small hu,if_neg (Ne.symm hur),hv]
 have hs1:(s.set u .un) r= .own (.sl (some e) xs):=by
  rw[St.set];simp only[St.put,if_neg (Ne.symm hur)];rw[free_own (by rw[hs];rfl) (Ne.symm hur),hs]
 have key:∃w2 ow2,(execOp (a.put (some u) v1).eval o2).run P w= .ok (.value (.tuple #[])) w2/\Fits P n w0 ow0 ow2 (((s.set u .un).kill r).put r (.own (.sl (some e) (xs.take j++List.replicate (xs.length-j) (.any (T e).w))))) (a.put (some u) v1) w2:=by
  have hrf:r≠far0:=fun e=>by have:=hf.far;rw[←e,hs]at this;cases this
  by_cases hjl:xs.length-j=0
  ·refine⟨w,ow,?_,?_⟩
   ·exact YS ho2 hev fun ty=>by rw[hv1,hjl];exact ai8 hsl _ _
   ·have hxs:xs.take j++List.replicate (xs.length-j) (D.any (T e).w)=xs:=by rw[hjl];simp;exact List.take_of_length_le (by omega)
    rw[hxs];refine hf1.change hf1.nodef hf1.size rfl rfl rfl (Nat.le_refl _) (fun b _ h=>⟨rfl,h⟩) hf1.new (fun k=>k=r) (fun k _ b _ q hq=>⟨rfl,hq⟩) (fun k hk=>⟨rfl,?_⟩) ?_ (fun e=>hrf e.symm)
    ·have hkr:k≠r:=hk;simp only[St.put,if_neg hkr];rcases lU (s.set u .un) r k with h1|⟨h1,_,h2⟩
     ·exact .inl h1
     ·refine .inr ⟨h1,fun m hm=> ?_⟩;have hmr:m≠r:=by rintro rfl;exact h2 hm
      exact⟨hmr,by simp only[if_neg hmr];exact lL ((hf1.slot k).root hm) hmr⟩
    ·rintro k rfl;have:=hf1.slot k;rw[hs1]at this;simp only[St.put,if_true];exact this
  ·rcases h4 with⟨_,h4,_⟩|⟨h4,_⟩|⟨b,off,sz,C,e',fz,rfl,hb,_,h5,hrow⟩
   ·rw[h4]at hjl;simp at hjl
   ·cases h4
   obtain⟨hob,rfl,hU,rfl,hC,i',hi',his'⟩:=h5 e rfl;obtain rfl:i=i':=by rw[hi]at hi';exact Option.some.inj hi'
   have hcj:cap≠j:=by omega
   have hzl:zv.cells.size=i.size:=by
    have h1:=(R.zf (P:=P) (w:=w) (ow:=ow) (l:=[]) hflat).len;rw[Array.length_toList,hzw,←his]at h1;exact h1
   obtain⟨vs,hvs⟩:∃vs,vs=(Builtin.zeroCells zv.cells (xs.length-j)).toList:=⟨_,rfl⟩;have hvl:vs.length=(xs.length-j)*sz:=by rw[hvs,Array.length_toList,size_zeroCells,hzl,his']
   have hone:∀v∈vs,v.oneCell'=true:=fun v hv=>(R.zf (P:=P) (w:=w) (ow:=ow) (l:=[]) hflat).GH v (aaP (by rw[←hvs];exact hv) (by rw[hzl,his];exact hew))
   have hfit:0+j*sz+0+vs.length<=C.size:=by
    rw[hvl,hC];have:=Nat.mul_le_mul_right sz (show j+(xs.length-j)<=cap by omega);rw[Nat.add_mul]at this;omega
   have hst:=oD P b (0+j*sz) e fz vs 0 C w hb hU hfit hone;have hct:=R.awH (P:=P) hb hone hob hU hC hi his' hrow hc1 hc2 hj hvl;simp only[Nat.zero_add,Nat.add_zero]at hst
   refine⟨_,ow,YS ho2 hev fun ty=>by
    rw[hv1,if_neg hcj]
    exact ajK hsl (av4 hi hz) _ _ _ hjl (by
     rw[←hvs];have hadd:(⟨b,0,none⟩:Addr).add (j*i.size)=⟨b,j*sz,none⟩:=by rw[his'];unfold Addr.add;split<;>simp_all
     show(storeCells ((⟨b,0,none⟩:Addr).add (j*i.size)) vs).run P w=_;rw[hadd];exact hst),?_⟩
   have hfit':j*sz+vs.length<=C.size:=by omega
   obtain⟨hw,hb',_⟩:=Wr.setRow (o:=j*sz) (vs:=vs) hb hfit';obtain⟨e1,e2,e3,e4⟩:=aeT (w:=w) (b:=b) (C:=(C.toList.take (j*sz)++vs++C.toList.drop (j*sz+vs.length)).toArray)
   have hob2:∀k,k≠r->∀b2 q,ow b2=some (q++[k])->b2=b->False:=fun k hk b2 q hq e=>by
    rw[e,hob]at hq;have:=congrArg List.getLast? (Option.some.inj hq);simp at this;exact hk this.symm
   refine hf1.change hf1.nodef hf1.size e1 e2 e3 (Nat.le_of_eq e4.symm) (fun b2 hb2 ho=>⟨hw.other b2 (fun e=>by rw[e,hob]at ho;cases ho),ho⟩) (fun b2 hb2=>hf1.new b2 (by rw[e4]at hb2;exact hb2)) (fun k=>k=r) (fun k hk b2 hb2 q hq=>⟨hw.other b2 (fun e=>hob2 k hk b2 q hq e),hq⟩) (fun k hk=>⟨rfl,?_⟩) ?_ (fun e=>hrf e.symm)
   ·have hkr:k≠r:=hk;simp only[St.put,if_neg hkr];rcases lU (s.set u .un) r k with h1|⟨h1,_,h2⟩
    ·exact .inl h1
    ·refine .inr ⟨h1,fun m hm=> ?_⟩;have hmr:m≠r:=by rintro rfl;exact h2 hm
     exact⟨hmr,by simp only[if_neg hmr];exact lL ((hf1.slot k).root hm) hmr⟩
   ·rintro k rfl;simp only[St.put,if_true,SV,V];rw[hav,←his,his'];exact hct
 obtain⟨w2,ow2,hrun2,hf2⟩:=key;have hp2:∀v,Pinned p ((a.put (some u) v1).put o2.dst v):=fun v=>hp1.put hn2;unfold wpList;rw[if_pos (by simp[Region.wanted,hg1])];left;unfold Oper.wp;rw[hrun1];simp only[Oper.upon,hd1];unfold wpList;rw[if_pos (by simp[Region.wanted,hg2])];left;unfold Oper.wp;rw[hrun2];simp only[Oper.upon];unfold wpList;refine hQ _ _ _ hK ?_ (hp2 _);cases hod:o2.dst with
 |none=>exact⟨ow2,hf2⟩
 |some v=>exact⟨ow2,hf2.set (hd2 v hod).1 ⟨#[],rfl,rfl,fun k x hx=>by simp at hx⟩⟩
theorem aCD (hG:∀t,Good P T t) {sp:List Nat}{s:St}{K:Exit->St->Prop}(m:Nat) {t e:Nat}
  (h:vcL P T n ops (ops.toList.take m) s (fun s1=>match evS s1 x with
   | .al r []=>(match s1 r with
    | .own (.sl (some e') xs)=>e'=e/\RY (evS s1 lo) fun j=>0<=j/\j<=xs.length/\u≠r/\ @H6 (((s1.set u .un).kill r).put r (.own (.sl (some e) (xs.take j.toNat++List.replicate (xs.length-j.toNat) (.any (T e).w))))) ⟨K⟩
    |_=>False)
   |_=>False))
  (ho:ops.toList.drop m=[o1,o2]:=by rfl) (ho1:o1.op= .slice t x (some lo) none none:=by rfl) (ht:(T t).ty= .sl e:=by rfl) (he:(T e).ok=true:=by rfl) (hew:0<(T e).w:=by decide) (hg1:o1.guard=none:=by rfl) (hg2:o2.guard=none:=by rfl)
  (hd1:o1.dst=some u:=by rfl) (hu:u<n:=by decide) (ho2:o2.op= .call {callee:= .builtin .clear,args:= #[.tmp u],argTypes:= #[t]}:=by rfl) (hd2:o2.dst=none:=by rfl): @lH _ P T n w0 ow0 p sp ⟨.region i ops false⟩ s ⟨K⟩:=fun hd a w hR hp Q hQ=>wp_region_list (by
 have hd':kJ p ops.toList=true:=hd
 have:=IJ (Q:=Q) (l2:=ops.toList.drop m) (ops.toList.take m) s _ (vN hG _ _ _ h) (fun o ho=>kJ.one hd' o (List.mem_of_mem_take ho)) a w hR hp fun s' a' w' hK hR' hp'=>by
  have hn1:kM p o1=true:=kJ.one hd' o1 (List.mem_of_mem_drop (by rw[ho];simp));have hn2:kM p o2=true:=kJ.one hd' o2 (List.mem_of_mem_drop (by rw[ho];simp));rw[ho];split at hK
  rotate_left
  ·exact hK.elim
  rename_i r hx;split at hK
  rotate_left
  ·exact hK.elim
  rename_i e' xs hs;obtain⟨rfl,hK⟩:=hK;obtain⟨k,j,hj,h1,h2,h3,h4⟩:=rG hK;refine avQ hG (j:=j.toNat) ht he hew hg1 hg2 ho1 hd1 hu ho2 (fun v hv=>by rw[hd2]at hv;cases hv) h3 hx hs (by rw[hj,Int.toNat_of_nonneg h1]) (by omega) hn1 hn2 ?_ hR' hp' fun s2 a2 w2 hK2 hR2 hp2=>hQ .normal s2 a2 w2 hK2 hR2 hp2;rw[hd2];exact h4
 rwa [List.take_append_drop]at this)
theorem ayG {s:St}{K:St->Prop}{t':TypeId}{xs:List D}(ht:P.underlying t=some (.slice e)) (ho:o.op= .binOp .eql t x (.const (.slice none 0 0)) t') (hd:dstOk n o=true) (hx:asSl s (slotOf x) (evS s x)= .fr xs)
  (h1:xs=[]->K (s.dN o.dst (.val (.one (.bool true))))) (h2:K (s.dN o.dst (.val (.one (.bool false))))):Ok P n w0 ow0 o s K:=by
 refine bW fun a w ow hf=> ?_
 have fin:∀r:Bool,Rel P n w0 ow0 (s.dN o.dst (.val (.one (.bool r)))) (a.put o.dst (.bool r)) w:=fun r=>⟨ow,by
  cases hod:o.dst with
  |none=>exact hf
  |some t=>
   have ht:t<n:=by simpa[dstOk,hod]using hd
   exact hf.set ht (SV.qI rfl)⟩
 have hv:=hf.asSl x;rw[hx]at hv;simp only[rT]at hv
 have hemp:∀(a0:Option Addr) m c,a.eval x= .slice a0 m c->a0=none->xs=[]:=fun a0 m c e0 hn=>by
  by_cases hne:xs=[]
  ·exact hne
  ·have h3:=rT.hdr (s:=s) (a:=a) (z:= .fr xs) (by simpa only[rT]using hv) (by simp) (by simpa[SLv.xs]using hne);obtain⟨ad,m',c',h4⟩:=h3;rw[e0,hn]at h4;cases h4
 obtain⟨ad,cap,hval,hcap,_⟩:=hv.hdr;have ev:a.eval (.const (.slice none 0 0))= .slice none 0 0:=rfl
 have e2:∀m c,(Op.equal t (.slice ad m c) (.slice none 0 0)).run P w= .ok ad.isNone w:=fun m c=>by
  unfold Op.equal Op.maxDepth Op.equalIn;rw[Sem.run_bind,run_underlying ht w];cases ad<;>rfl
 refine⟨.bool ad.isNone,w,?_,_,?_,fin _⟩
 ·unfold execOp;rw[ho];simp only[hval,ev];have hg:∀m c,(eqGuard .eql t x (.const (.slice none 0 0)) (.slice ad m c) (.slice none 0 0)).run P w= .ok () w:=fun m c=>rfl;simp only[Sem.run_bind,hg,Result.andThen_ok,binOp,e2,Sem.run_pure];try rfl
 ·cases had:ad with
  |none=>exact h1 (hemp _ _ _ hval had)
  |some _=>exact h2
theorem aDJ (hG:∀t,Good P T t) {sp:List Nat}{s:St}{K:Exit->St->Prop}(m:Nat) {t t' e:Nat}
  (h:vcL P T n ops (ops.toList.take m) s (fun s1=>∃xs,asSl s1 (slotOf x) (evS s1 x)= .fr xs/\(xs=[]->vcL P T n ops l2 (s1.set u (.val (.one (.bool true)))) (fun s3=> @H6 s3 ⟨K⟩))/\vcL P T n ops l2 (s1.set u (.val (.one (.bool false)))) (fun s3=> @H6 s3 ⟨K⟩)))
  (ho:ops.toList.drop m=o::l2:=by rfl) (hop:o.op= .binOp .eql t x (.const (.slice none 0 0)) t':=by rfl) (ht:(T t).ty= .sl e:=by rfl) (hg:o.guard=none:=by rfl) (hdst:o.dst=some u:=by rfl) (hu:u<n:=by decide): @lH _ P T n w0 ow0 p sp ⟨.region i ops false⟩ s ⟨K⟩:=by
 refine aEY hG m ho hg h fun s1 ⟨xs,h1,h2,h3⟩=>ayG ((hG t).desc ht (by simp)) hop (dstOk_of fun v hv=>by rw[hdst]at hv;cases hv;exact hu) h1 ?_ ?_
 ·rw[hdst];exact h2
 ·rw[hdst];exact h3
end
def S.aCQ:S->S
 | .own d=> .val d
 | .tup l=> .tup (l.map fun x=>match x with| .own d=> .val d|x=>x)
 |x=>x
theorem agV {w:World}(hn:∀b,w.heap.size<=b->ow b=none):∃t,t≠far0/\∀b q,ow b≠some (q++[t]):=by
 have key:∀n,∃m,∀b,b<n->∀q t,ow b=some (q++[t])->t<m:=by
  intro n
  induction n with
  |zero=>exact⟨0,fun b hb=>by omega⟩
  |succ n ih=>
   obtain⟨m,hm⟩:=ih;cases ho:ow n with
   |none=>exact⟨m,fun b hb q t h=>by
     by_cases hbn:b=n
     ·rw[hbn,ho]at h;cases h
     ·exact hm b (by omega) q t h⟩
   |some l=>exact⟨m+l.foldl max 0+1,fun b hb q t h=>by
     by_cases hbn:b=n
     ·rw[hbn,ho]at h;obtain rfl:=Option.some.inj h;rw[List.foldl_append];simp only[List.foldl_cons,List.foldl_nil];omega
     ·have:=hm b (by omega) q t h;omega⟩
 obtain⟨m,hm⟩:=key w.heap.size;refine⟨m+far0+1,by omega,fun b q h=> ?_⟩
 have hb:b<w.heap.size:=by
  by_cases hb:b<w.heap.size
  ·exact hb
  ·rw[hn b (by omega)]at h;cases h
 have:=hm b hb q _ h;omega
open Classical in
theorem bK.aCQ {P:Program}{f:FuncId}{ds:List D}{R:S}(h:bK P f ds (fun r=>r=R)):bK P f ds (fun r=>r=R.aCQ):=by
 intro w ow vs t ht hL hn hsz ha;obtain⟨u,hu,hfr⟩:=agV hn;refine(h w ow vs u hu hL hn hsz ha).mono ?_;rintro e w' ⟨v,ow',r,rfl,rfl,hA,hp,hsv⟩
 have hF:∀l,F9 w' ow' (l++[u]) (fun b=>if∃q,ow' b=some (q++[u])then none else ow' b):=fun l b _=>⟨fun ho=>by
  simp only;split
  ·rfl
  ·exact ho,fun q hq=>by
  simp only;rw[if_pos ⟨q++l,by rw[hq];simp⟩]⟩
 refine⟨v,fun b=>if∃q,ow' b=some (q++[u])then none else ow' b,_,rfl,rfl,⟨hA.os,hA.tape,hA.output,hA.size,fun b hb=>⟨(hA.old b hb).1,?_⟩,fun b hb=> ?_⟩,?_,fun s a=> ?_⟩
 ·rw[if_neg,(hA.old b hb).2];rintro⟨q,hq⟩;rw[(hA.old b hb).2]at hq;exact hfr b q hq
 ·rw[if_neg,hA.new b hb];rintro⟨q,hq⟩;rw[hA.new b hb]at hq;cases hq
 ·cases r<;>first|rfl|exact hp
 ·have hv:=hsv s a;have hno:∀b,ow' b=none->(if∃q,ow' b=some (q++[u])then none else ow' b)=none:=fun b ho=>by split;rfl;exact ho
  have hval:∀(d:D) (v:Value),V P w' ow' d.fz [] v->V P w' (fun b=>if∃q,ow' b=some (q++[u])then none else ow' b) d.fz [] v:=fun d v hv=>V.trf (fun b _ ho=>⟨rfl,hno b ho⟩) hv;cases r with
  |own d=>exact V.fz (hF []) hv
  |val d=>exact hval d v hv
  |un=>trivial
  |tup l=>
   obtain⟨ys,h1,h2,h3⟩:=hv;refine⟨ys,h1,by simpa using h2,fun k x hx=> ?_⟩;simp only[List.getElem?_map,Option.map_eq_some_iff]at hx;obtain⟨y,hy,rfl⟩:=hx;have:=h3 k y hy;cases y with
   |own d=>exact V.fz (hF [k]) this
   |val d=>exact hval d _ this
   |_=>trivial
  |rp d=>
   obtain⟨b,off,h1,h2,h3⟩:=hv;exact⟨b,off,h1,hno b h2,h3.trf (fun b _ ho=>⟨rfl,hno b ho⟩) h2⟩
  |al r p=>cases hp
  |rf r p=>cases hp
  |ag r p=>cases hp
end Go.Dv
end
section
namespace Go.Pl
open Go.Dv
def cB (c:UInt8):UInt8:=if 65<=c.toNat/\c.toNat<=90 then c+32 else c
def nM (s:Str):Str:=s.map cB
def nU (c:UInt8):Bool:=(decide (97<=c.toNat)&&decide (c.toNat<=122))||(decide (65<=c.toNat)&&decide (c.toNat<=90))||(decide (48<=c.toNat)&&decide (c.toNat<=57))
def rV (c:UInt8):Str:=if nU c=true\/c.toNat=32 then[c]else if c.toNat≠39 then[32]else[]
def oZ (s:Str):Str:=s.flatMap rV
def kC (s:Str)(i:Nat)(o:Str):Str:=if(s.getD i 0).toNat=32 then o else(if 0<o.length/\(s.getD (i-1) 0).toNat=32 then o++[32]else o)++[s.getD i 0]
def uW (s:Str):Str:=loopN s.length [] (kC s)
def normal (s:Str):Str:=uW (oZ (nM s))
variable {c:UInt8}
theorem V5 (h1:65<=c.toNat)(h2:c.toNat<=90):(cB c).toNat=c.toNat+32:=by
 unfold cB;rw[if_pos ⟨h1,h2⟩,UInt8.toNat_add];simp;omega
theorem JH (h:¬(65<=c.toNat/\c.toNat<=90)):cB c=c:=if_neg h
theorem BB (s:Str):(nM s).length=s.length:=by simp[nM]
theorem ak1 (c:UInt8):(rV c).length<=1:=by
 unfold rV;split<;>simp;split<;>simp
theorem EB (s:Str):(oZ s).length<=s.length:=by
 unfold oZ
 induction s with
 |nil=>simp
 |cons c s ih=>have:=ak1 c;simp only[List.flatMap_cons,List.length_append,List.length_cons];omega
theorem N9 (s:Str):(uW s).length<=2*s.length:=by
 refine loopN_inv (fun i (o:Str)=>o.length<=2*i) (by simp) fun i o _ ho=> ?_;unfold kC;split
 ·omega
 ·split<;>simp<;>omega
variable {i:Nat}
theorem acP {α β:Type}(f:α->List β){l:List α}{c:α}(h:l[i]?=some c):(l.take (i+1)).flatMap f=(l.take i).flatMap f++f c:=by rw[aU h];simp
theorem P8 {s:Str}(h:s[i]?=some c):s.getD i 0=c:=by simp[List.getD_eq_getElem?_getD,h]
end Go.Pl
namespace Go.Pl
open Go.Dv
def M4 (c:UInt8)(p:Str):Str->List Str
 |[]=>[p]
 |d::s=>if d=c then p::M4 c [] s else M4 c (p++[d]) s
def ZE (c:UInt8)(s:Str):List Str:=M4 c [] s
theorem GZ (c:UInt8):∀(s p:Str),(M4 c p s).length<=s.length+1/\∀x∈M4 c p s,x.length<=p.length+s.length
 |[],p=>by simp[M4]
 |d::s,p=>by
  unfold M4;split
  ·have⟨h1,h2⟩:=GZ c s [];refine⟨by simp;omega,fun x hx=> ?_⟩;rcases List.mem_cons.1 hx with rfl|hx
   ·omega
   ·have:=h2 x hx;simp at this|-;omega
  ·have⟨h1,h2⟩:=GZ c s (p++[d]);refine⟨by simp;omega,fun x hx=> ?_⟩;have:=h2 x hx;simp at this|-;omega
theorem afT (c:UInt8)(s:Str):(ZE c s).length<=s.length+1/\∀x∈ZE c s,x.length<=s.length:=by
 have⟨h1,h2⟩:=GZ c s [];exact⟨h1,fun x hx=>by have:=h2 x hx;simpa using this⟩
def codeOf (d:Nat):Int:=if d=98\/d=102\/d=112\/d=118 then 1 else if d=99\/d=103\/d=106\/d=107\/d=113\/d=115\/d=120\/d=122 then 2 else if d=100\/d=116 then 3 else if d=108 then 4 else if d=109\/d=110 then 5 else if d=114 then 6 else if d=97\/d=101\/d=105\/d=111\/d=117\/d=121 then 0 else if d=104\/d=119 then -1 else -2
def aB (c:UInt8):Int:=codeOf (cB c).toNat
theorem OJ (c:UInt8): -2<=aB c/\aB c<=6:=by
 unfold aB codeOf;repeat(first|omega|split)
def mV (s:Str×Int)(c:UInt8):Str×Int:=if s.1=[]then([cB c],aB c)else(if aB c>0/\aB c≠s.2/\s.1.length<4 then s.1++[UInt8.ofNat (48+aB c).toNat]else s.1,if 0<=aB c then aB c else s.2)
def VM (o:Str):Str:=o++List.replicate (4-o.length) 48
def dG (s:Str):Str:=if s=[]\/s.all (fun c=>decide (aB c≠ -2))=false then[]else VM (s.foldl mV ([],0)).1
end Go.Pl
end
section
namespace Go.Pl
open Go.Dv
def sP (l:List Str)(x:Str):Nat:=(l.takeWhile fun y=>ltL y x).length
def dP (l:List Str)(x:Str)(again:Bool):List Str:=if !again&&decide (l[sP l x]?=some x)then l else l.take (sP l x)++[x]++l.drop (sP l x)
theorem aqG (l:List Str)(x:Str):sP l x<=l.length:=by
 unfold sP;exact(List.takeWhile_prefix _).length_le
theorem kN (l:List Str)(x:Str)(b:Bool):(dP l x b).length<=l.length+1:=by
 have:=aqG l x;unfold dP;split
 ·omega
 ·simp;omega
def oH (t:List Str)(x:Str):List Str:=if x≠[]then dP t x false else t
def tokens (s:Str):List Str:=(ZE 32 (normal s)).foldl oH []
theorem ah0 (t:List Str)(x:Str):(oH t x).length<=t.length+1:=by
 unfold oH;split
 ·exact kN _ _ _
 ·omega
def nY (t:List Str)(x:Str):List Str:=if dG x≠[]then dP t (dG x) false else t
def fP (s:Str):List Str:=(tokens s).foldl nY []
def J2 (c:Str):Bool:=decide (c≠[])&&c.all nU&&decide (nM c=c)
def jP (l:List Str):Bool:=l.all J2&&adj ltL l
def nG (a b:List Str):Bool:=jP a&&jP b
def yT (b:List Str)(t:List Str)(x:Str):List Str:=if b.any (fun y=>decide (y=x))=true then dP t x false else t
def common (a b:List Str):List Str:=a.foldl (yT b) []
def oC (t:List Str)(x:Str):List Str:=dP t x false
def QP (a b:List Str):List Str:=b.foldl oC (a.foldl oC [])
def rZ (a b:List Str):Int:=if nG a b=true then ratio (common a b).length (QP a b).length else 0
def lM (a b:List Str):Int:=if a=[]\/b=[]then 0 else rZ a b
def gM (a b c:Int):Int:=if inR a 0 9999=true/\inR b 0 9999=true/\inR c 1 9999=true then(if max a b-min a b>=c then 0 else(1000*(c-(max a b-min a b))).tdiv c)else 0
def digits (s:Str):Str:=s.filter fun c=>decide (48<=c.toNat/\c.toNat<=57)
theorem wV {α β:Type}(f:List α->β->List α)(h:∀t x,(f t x).length<=t.length+1):∀(l:List β) (t:List α),(l.foldl f t).length<=t.length+l.length
 |[],t=>by simp
 |x::l,t=>by have:=wV f h l (f t x);have:=h t x;simp only[List.foldl_cons,List.length_cons];omega
end Go.Pl
end
section
namespace Go.Pl
open Go.Dv
def chr (s:Str)(i:Nat):UInt8:=s.getD i 0
variable {i:Nat}
theorem rM {s:Str}(h:i<s.length):s[i]?=some (chr s i):=by
 obtain⟨c,hc⟩:=aC h;rw[chr,P8 hc];exact hc
def edOne (x y:Str)(T:L2)(i:Nat)(r:L1)(j:Nat):Int:=
 if i=0 then j else if j=0 then i else if chr x (i-1)=chr y (j-1)then at2 T (i-1) (j-1)else 1+min (min (at2 T (i-1) j) (at1 r (j-1))) (at2 T (i-1) (j-1))
def nE (x y:Str)(tr:Bool)(i j:Nat):Bool:=tr&&decide (i>1)&&decide (j>1)&&decide (chr x (i-1)=chr y (j-2))&&decide (chr x (i-2)=chr y (j-1))
def abP (x y:Str)(tr:Bool)(T:L2)(i j:Nat)(r:L1):L1:=if nE x y tr i j=true then r.set j (min (at1 r j) (at2 T (i-2) (j-2)+1))else r
def xJ (x y:Str)(tr:Bool)(T:L2)(i j:Nat)(r:L1):L1:=abP x y tr T i j (r.set j (edOne x y T i r j))
def XE (x y:Str)(tr:Bool)(i:Nat)(T:L2):L1:=loopN (y.length+1) (List.replicate (y.length+1) 0) (xJ x y tr T i)
def JO (x y:Str)(tr:Bool):L2:=loopN (x.length+1) [] fun i T=>T++[XE x y tr i T]
def adA (n k i:Nat)(r:L1):Prop:=r.length=n/\∀j<k,0<=at1 r j/\at1 r j<=i+j
def TV (n:Nat)(T:L2):Prop:=∀i<T.length,adA n n i (T.getD i [])
variable {n j:Nat}
theorem uV {T:L2}(h:TV n T)(hi:i<T.length)(hj:j<n):∃r,T[i]?=some r/\r[j]?=some (at2 T i j)/\0<=at2 T i j/\at2 T i j<=i+j:=by
 obtain⟨r,hr⟩:=aC hi;have h1:=h i hi;rw[List.getD_eq_getElem?_getD,hr]at h1;obtain⟨h2,h3⟩:=h1;simp only[Option.getD_some]at h2 h3;have h4:=aD (l:=r) (i:=j) (by omega);have h5:at2 T i j=at1 r j:=by simp[at2,at1,List.getD_eq_getElem?_getD,hr]
 exact⟨r,hr,by rw[h5];exact h4,by rw[h5];exact(h3 j hj).1,by rw[h5];exact(h3 j hj).2⟩
variable {r:L1}{v:Int}
theorem qA (k:Nat)(hj:j<r.length):at1 (r.set j v) k=if j=k then v else at1 r k:=by
 simp only[at1,List.getD_eq_getElem?_getD,List.getElem?_set];by_cases h:j=k
 ·subst h;simp[hj]
 ·simp[h]
theorem OW {k:Nat}(h:adA n k i r)(hk:k<n)(h1:0<=v)(h2:v<=i+k):adA n (k+1) i (r.set k v):=by
 refine⟨by simp[h.1],fun j hj=> ?_⟩;rw[qA _ (by rw[h.1];exact hk)];split
 ·omega
 ·exact h.2 j (by omega)
theorem YJ {T:L2}(h:TV n T)(hr:adA n n T.length r):TV n (T++[r]):=by
 intro i hi;simp only[List.length_append,List.length_singleton]at hi;rw[List.getD_eq_getElem?_getD];by_cases h1:i<T.length
 ·rw[List.getElem?_append_left h1];have:=h i h1
  rwa [List.getD_eq_getElem?_getD]at this
 ·obtain rfl:i=T.length:=by omega
  simp;exact hr
variable {x y:Str}
theorem az6 {T:L2}(hT:T.length=i)(h4:TV n T)(hr:adA n j i r)(hj:j<n)(hi:0<=(i:Int)):0<=edOne x y T i r j/\edOne x y T i r j<=i+j:=by
 unfold edOne;split
 ·omega
 ·split
  ·omega
  ·obtain⟨q,hq,hqj,hb1,hb2⟩:=uV h4 (i:=i-1) (j:=j-1) (by omega) (by omega);obtain⟨q',hq',hqk,hb3,hb4⟩:=uV h4 (i:=i-1) (j:=j) (by omega) (by omega);have hb5:=hr.2 (j-1) (by omega);split
   ·omega
   ·omega
theorem apH {tr:Bool}{T:L2}(hT:T.length=i)(h4:TV n T)(hr:adA n j i r)(hj:j<n):adA n (j+1) i (xJ x y tr T i j r):=by
 have hve:=az6 (x:=x) (y:=y) hT h4 hr hj (by omega);have h1:=OW hr hj hve.1 hve.2;unfold xJ abP;generalize r.set j (edOne x y T i r j)=r' at h1|-
 split
 ·next hw=>
  simp only[nE,Bool.and_eq_true,decide_eq_true_eq]at hw;obtain⟨q,hq,hqj,hb1,hb2⟩:=uV h4 (i:=i-2) (j:=j-2) (by omega) (by omega);have hb3:=h1.2 j (by omega);exact OW ⟨h1.1,fun j' hj'=>h1.2 j' (by omega)⟩ hj (by omega) (by omega)
 ·exact h1
theorem ZI (x y:Str)(tr:Bool):(JO x y tr).length=x.length+1/\TV (y.length+1) (JO x y tr):=by
 refine loopN_inv (fun i (T:L2)=>T.length=i/\TV (y.length+1) T) ⟨rfl,fun i hi=>by simp at hi⟩ fun i T hi ⟨h1,h2⟩=>⟨by simp[h1],YJ h2 ?_⟩;rw[h1];exact loopN_inv (fun j r=>adA (y.length+1) j i r) ⟨by simp,by omega⟩ fun j r hj hr=>apH h1 h2 hr hj
def xP (x y:Str):Bool:=decide (x.length<=40)&&decide (y.length<=40)
def jW (x y:Str):Int:=if xP x y=true then at2 (JO x y false) x.length y.length else -1
theorem aa6 (x y:Str): -1<=jW x y/\jW x y<=80:=by
 unfold jW;split
 ·next h=>
  simp only[xP,Bool.and_eq_true,decide_eq_true_eq]at h;have h1:=ZI x y false;obtain⟨q,hq,hqj,hb1,hb2⟩:=uV h1.2 (i:=x.length) (j:=y.length) (by omega) (by omega);omega
 ·omega
def oI (x y:Str):Int:=if jW x y<0 then 0 else if max (x.length:Int) y.length=0 then 1000 else(1000*(max (x.length:Int) y.length-jW x y)).tdiv (max (x.length:Int) y.length)
def jJ (x y:Str):Int:=if normal x=[]\/normal y=[]then 0 else oI (normal x) (normal y)
theorem BO {a b:Int}(h1: -9000000000000000000<=a)(h:a<=9000000000000000000):inI .i64 (a.tdiv b):=by
 have:=Int.natAbs_tdiv_le_natAbs a b;simp only[inI];omega
end Go.Pl
namespace Go.Pl
open Go.Dv
def iP (m:Nat):Str:=if h:m=0 then[]else iP (m/10)++[UInt8.ofNat (48+m % 10)]
termination_by m
decreasing_by omega
theorem nP {m:Nat}(h:m≠0):iP m=iP (m/10)++[UInt8.ofNat (48+m % 10)]:=by rw[iP,dif_neg h]
theorem nJ:iP 0=[]:=by rw[iP];simp
def oP (n:Int):Str:=if n=0 then[48]else(if n<0 then[45]else[])++iP n.natAbs
theorem MF (m k:Nat)(h:m<10^k):(iP m).length<=k:=by
 induction k generalizing m with
 |zero=>
  have:m=0:=by simpa using h
  subst this;simp[nJ]
 |succ k ih=>
  by_cases h0:m=0
  ·subst h0;simp[nJ]
  ·rw[nP h0];have:=ih (m/10) (by rw[Nat.pow_succ]at h;omega);simp;omega
end Go.Pl
namespace Go.Pl
open Go.Dv
def zH (st:Int×Int)(c:UInt8):Int×Int:=if 48<=c.toNat/\c.toNat<=57 then(st.1*10+(c.toNat-48),st.2+1)else st
def kX (s:Str):Int×Int:=(s.take 11).foldl zH (0,0)
def fD (s:Str):Int:=if s[0]?=some 45 then-(kX s).1 else(kX s).1
def gV (s:Str):Bool:=decide ((kX s).2<=9)&&decide (s.length<=10)&&decide (oP (fD s)=s)
def dD (s:Str):Int:=if gV s=true/\inR (fD s) 1000 9999=true then fD s else 0
end Go.Pl
namespace Go.Pl
open Go.Dv
def shared:Str->Str->Nat
 |a::s,b::t=>if a=b then shared s t+1 else 0
 |_,_=>0
def yV (p q:Str):Int:=
 if p.length<4\/q.length<4\/shared p.reverse q.reverse<4 then 0
 else if shared p.reverse q.reverse=p.length/\shared p.reverse q.reverse=q.length then 1000
 else if shared p.reverse q.reverse>=7\/shared p.reverse q.reverse=p.length\/shared p.reverse q.reverse=q.length then 800 else 400
def kK (x y:Str):Int:=yV (digits x) (digits y)
variable {i:Nat}
theorem WA {s:Str}(h:i<s.length):s[s.length-1-i]?=some (chr s.reverse i):=by
 have h1:=rM (s:=s.reverse) (i:=i) (by simpa using h);rw[←h1,List.getElem?_reverse h]
variable {p q:Str}
theorem UM (hp:i<p.length)(hq:i<q.length):shared (p.drop i) (q.drop i)=if chr p i=chr q i then shared (p.drop (i+1)) (q.drop (i+1))+1 else 0:=by
 rw[List.drop_eq_getElem_cons hp,List.drop_eq_getElem_cons hq,shared];have h1:=rM hp;have h2:=rM hq;rw[List.getElem?_eq_getElem hp]at h1;rw[List.getElem?_eq_getElem hq]at h2;rw[Option.some.inj h1,Option.some.inj h2]
theorem DU (h:p.length<=i\/q.length<=i):shared (p.drop i) (q.drop i)=0:=by
 rcases h with h|h
 ·rw[List.drop_eq_nil_of_le h];unfold shared;rfl
 ·rw[List.drop_eq_nil_of_le h];cases p.drop i<;>rfl
end Go.Pl
end
section
namespace Go.Pl
open Go.Dv
def fld (r:Rec)(i:Nat):Str:=r.fields.getD i []
def kW (x y:Str):Int:=if 0<dD x/\0<dD y then gM (dD x) (dD y) 10 else 0
def vC (a b:Rec):L1:=[jJ (fld a 0) (fld b 0),lM (tokens (fld a 0)) (tokens (fld b 0)),lM (fP (fld a 0)) (fP (fld b 0)),jJ (fld a 1) (fld b 1),kW (fld a 2) (fld b 2),kK (fld a 3) (fld b 3)]
def recAt (l:List Rec)(i:Nat):Rec:=l.getD i default
variable {i:Nat}
theorem JC {l:List Rec}(h:i<l.length):l[i]?=some (recAt l i):=by simp[recAt,List.getD_eq_getElem?_getD,h]
def eZ (l:List Rec)(rs:List (List Tst))(s:Sco)(i k:Nat):Int:=if i=k then 0 else cK rs s (vC (recAt l (min i k)) (recAt l (max i k)))
def oK (l:List Rec)(rs:List (List Tst))(s:Sco)(i:Nat):L1:=(List.range l.length).map (eZ l rs s i)
def weights (l:List Rec)(rs:List (List Tst))(s:Sco):L2:=(List.range l.length).map (oK l rs s)
theorem Q8 {α:Type}(f:Nat->α)(k:Nat):(List.range (k+1)).map f=(List.range k).map f++[f k]:=by simp[List.range_succ]
theorem bS {r:Rec}(h:aJ r=true):r.fields.length=4/\∀i,i<4->r.fields[i]?=some (fld r i)/\(fld r i).length<=40:=by
 simp only[aJ,Bool.and_eq_true,decide_eq_true_eq,List.all_eq_true]at h;refine⟨h.2,fun i hi=> ?_⟩;have h1:r.fields[i]?=some (fld r i):=by simp[fld,List.getD_eq_getElem?_getD,h.2,hi]
 refine⟨h1,?_⟩;have h2:=h.1.1.1.1 _ (List.mem_of_getElem? h1);simp only[fF,isText,Bool.and_eq_true,decide_eq_true_eq]at h2;exact h2.2.2
def backs {α:Type}(p:α->Bool)(l:List α):Nat:=(l.reverse.takeWhile p).length
def dW {α:Type}(p:α->Bool)(l:List α)(v:α):List α:=l.take (l.length-backs p l)++[v]++l.drop (l.length-backs p l)
theorem afR {α:Type}(p:α->Bool)(l:List α):backs p l<=l.length:=by
 have:=(List.takeWhile_prefix (p:=p) (l:=l.reverse)).length_le;simpa[backs]using this
theorem H9 {α:Type}(p:α->Bool)(l:List α)(v:α):(dW p l v).length=l.length+1:=by
 have:=afR p l;simp[dW];omega
variable {k:Nat}
theorem GR {α:Type}{p:α->Bool}{l:List α}(hk:k<=l.length)(h1:∀j,k<=j->(h:j<l.length)->p l[j]=true)(h2:k=0\/∃c,l[k-1]?=some c/\p c=false):l.length-backs p l=k:=by
 have h3:l=l.take k++l.drop k:=(List.take_append_drop k l).symm;have h4:l.reverse=(l.drop k).reverse++(l.take k).reverse:=by rw[←List.reverse_append,←h3]
 have h5:∀x∈(l.drop k).reverse,p x=true:=by
  intro x hx;rw[List.mem_reverse]at hx;obtain⟨j,hj⟩:=List.getElem?_of_mem hx;rw[List.getElem?_drop]at hj;have hlt:=(List.getElem?_eq_some_iff.1 hj).1;have:=h1 (k+j) (by omega) hlt;rw[List.getElem?_eq_getElem hlt]at hj
  rwa [Option.some.inj hj]at this
 have h6:((l.take k).reverse).takeWhile p=[]:=by
  rcases h2 with rfl|⟨c,hc,hp⟩
  ·simp
  ·by_cases hk0:k=0
   ·subst hk0;simp
   ·have h7:l.take k=l.take (k-1)++[c]:=by
     have:=aU hc
     rwa [show k-1+1=k by omega]at this
    rw[h7];simp[hp]
 have h8:backs p l=(l.drop k).length:=by
  unfold backs;rw[h4,List.takeWhile_append_of_pos h5,h6];simp
 rw[h8];simp;omega
def kY (v u:Ver):Bool:=decide (0<bP u v)
def bV (l:List Ver):List Ver:=l.foldl (fun out v=>dW (kY v) out v) []
def uK (v u:Ver):Bool:=decide (u.time<v.time)
def lZ (l:List Ver):List Ver:=l.foldl (fun out v=>dW (uK v) out v) []
theorem uQ {α:Type}(p:α->α->Bool):∀(l t:List α),(l.foldl (fun out v=>dW (p v) out v) t).length=t.length+l.length
 |[],t=>by simp
 |x::l,t=>by rw[List.foldl_cons,uQ p l,H9];simp;omega
def YT (l:List Ver)(v:Ver):Nat:=(l.takeWhile fun u=>decide (bP u v<0)).length
def yJ (l:List Ver)(v:Ver):Bool:=eO l&&bH v&& !(l.any fun y=>decide (y=v))&&decide (l.length≠8)
def qN (l:List Ver)(v:Ver):List Ver:=if yJ l v=true then l.take (YT l v)++[v]++l.drop (YT l v)else l
theorem atP (l:List Ver)(v:Ver):YT l v<=l.length:=(List.takeWhile_prefix _).length_le
theorem aeE {α:Type}{p:α->Bool}{l:List α}(hk:k<=l.length)(h1:(l.take k).all p=true)(h2:k=l.length\/∃c,l[k]?=some c/\p c=false):(l.takeWhile p).length=k:=by
 have h3:l=l.take k++l.drop k:=(List.take_append_drop k l).symm;have h5:∀x∈l.take k,p x=true:=List.all_eq_true.1 h1
 have h6:(l.drop k).takeWhile p=[]:=by
  rcases h2 with rfl|⟨c,hc,hp⟩
  ·simp
  ·have hlt:=(List.getElem?_eq_some_iff.1 hc).1;rw[List.drop_eq_getElem_cons hlt];rw[List.getElem?_eq_getElem hlt]at hc;rw[Option.some.inj hc];simp[hp]
 rw[h3,List.takeWhile_append_of_pos h5,h6];simp;omega
def mQ (cannot:List Ver)(st:L2×List Ver×List Ver)(v:Ver):L2×List Ver×List Ver:=
 if cannot.all (tV (jD st.1 v.a v.b))=true then(jD st.1 v.a v.b,qN (bV st.2.1) v,st.2.2)else(st.1,st.2.1,st.2.2++[v])
def zG (l:List Ver):L2×List Ver×List Ver:=(lZ (mM (bQ l))).foldl (mQ (apart (bQ l))) ([],apart (bQ l),[])
def kP (l:List Ver):List Ver:=bV (zG l).2.1
def dQ (l:List Ver):List Ver:=bV (zG l).2.2
def FX (g:L2)(items:L1)(i:Nat):Option Nat:=(List.range items.length).find? fun k=>decide (i<k)&&decide (bA g (at1 items k)=bA g (at1 items i))
def kT (g:L2)(items:L1)(i:Nat):List Con:=if 0<=bA g (at1 items i)then(match FX g items i with|some k=>[⟨i,k,true⟩]|none=>[])else[]
def BQ (g:L2)(items:L1):List Con:=(List.range items.length).flatMap (kT g items)
def iI (kept:List Ver)(items:L1):List Con:=BQ (joined kept) items++wK (apart kept) items
theorem UI (g:L2)(items:L1)(i:Nat):(kT g items i).length<=1:=by
 unfold kT;split
 ·split<;>simp
 ·simp
def RG (l:L1):Prop:=∀k<l.length,0<=at1 l k/\∀v,0<=v->v<at1 l k->∃j<k,at1 l j=v
theorem adQ {a b:L1}(hl:a.length=b.length)(h:∀k<a.length,at1 a k=at1 b k):a=b:=by
 refine List.ext_getElem? fun k=> ?_;by_cases hk:k<a.length
 ·rw[aD hk,aD (by omega),h k hk]
 ·rw[List.getElem?_eq_none (by omega),List.getElem?_eq_none (by omega)]
theorem RG.unique {a b:L1}(hl:a.length=b.length)(ha:RG a)(hb:RG b)(h:∀i k,i<a.length->k<a.length->(at1 a i=at1 a k↔at1 b i=at1 b k)):a=b:=by
 refine adQ hl fun k hk=> ?_
 induction k using Nat.strongRecOn with
 |_ k ih=>
  rcases Int.lt_trichotomy (at1 a k) (at1 b k)with hlt|he|hlt
  ·obtain⟨j,hj,e⟩:=(hb k (by omega)).2 (at1 a k) (ha k hk).1 hlt;have h1:=ih j hj (by omega);have h2:=(h j k (by omega) hk).1 (by omega);omega
  ·exact he
  ·obtain⟨j,hj,e⟩:=(ha k hk).2 (at1 b k) (hb k (by omega)).1 hlt;have h1:=ih j hj (by omega);have h2:=(h j k (by omega) hk).2 (by omega);omega
theorem ab5:∀(l:L1) (top:Int) (pre:L1), -1<=top->(∀v,0<=v->v<=top->∃j<pre.length,at1 pre j=v)->(∀j<pre.length,at1 pre j<=top)->RG (pre++l)->rR top l=true
 |[],_,_,_,_,_,_=>rfl
 |x::l,top,pre,ht,h1,h2,h=>by
  have hx:=h pre.length (by simp);have hat:at1 (pre++x::l) pre.length=x:=by simp[at1,List.getD_eq_getElem?_getD]
  have hpre:∀j<pre.length,at1 (pre++x::l) j=at1 pre j:=fun j hj=>by simp[at1,List.getD_eq_getElem?_getD,List.getElem?_append_left hj]
  rw[hat]at hx
  have hle:x<=top+1:=by
   rcases Int.lt_or_le (top+1) x with hlt|hle
   ·by_cases h0:0<=top+1
    ·obtain⟨j,hj,e⟩:=hx.2 (top+1) h0 hlt;rw[hpre j hj]at e;have:=h2 j hj;omega
    ·by_cases hx0:x=0
     ·omega
     ·obtain⟨j,hj,e⟩:=hx.2 0 (by omega) (by omega);rw[hpre j hj]at e;have:=h2 j hj;omega
   ·exact hle
  simp only[rR,Bool.and_eq_true,decide_eq_true_eq];refine⟨⟨hx.1,hle⟩,ab5 l (max top x) (pre++[x]) (by omega) (fun v hv hvt=> ?_) (fun j hj=> ?_) (by simpa using h)⟩
  ·by_cases hvt2:v<=top
   ·obtain⟨j,hj,e⟩:=h1 v hv hvt2;exact⟨j,by simp;omega,by rw[←e];simp[at1,List.getD_eq_getElem?_getD,List.getElem?_append_left hj]⟩
   ·exact⟨pre.length,by simp,by simp[at1,List.getD_eq_getElem?_getD];omega⟩
  ·by_cases hj2:j<pre.length
   ·have:=h2 j hj2;have e:at1 (pre++[x]) j=at1 pre j:=by simp[at1,List.getD_eq_getElem?_getD,List.getElem?_append_left hj2]
    omega
   ·obtain rfl:j=pre.length:=by simp at hj;omega
    simp[at1,List.getD_eq_getElem?_getD];omega
theorem abO:∀(l:L1) (top:Int) (pre:L1), -1<=top->(∀v,0<=v->v<=top->∃j<pre.length,at1 pre j=v)->RG pre->rR top l=true->RG (pre++l)
 |[],_,pre,_,_,h,_=>by simpa using h
 |x::l,top,pre,ht,h1,h,hp=>by
  simp only[rR,Bool.and_eq_true,decide_eq_true_eq]at hp;have:=abO l (max top x) (pre++[x]) (by omega) (fun v hv hvt=> ?_) (fun k hk=> ?_) hp.2
  ·simpa using this
  ·by_cases hvt2:v<=top
   ·obtain⟨j,hj,e⟩:=h1 v hv hvt2;exact⟨j,by simp;omega,by rw[←e];simp[at1,List.getD_eq_getElem?_getD,List.getElem?_append_left hj]⟩
   ·exact⟨pre.length,by simp,by simp[at1,List.getD_eq_getElem?_getD];omega⟩
  ·by_cases hk2:k<pre.length
   ·have e:∀j<pre.length,at1 (pre++[x]) j=at1 pre j:=fun j hj=>by simp[at1,List.getD_eq_getElem?_getD,List.getElem?_append_left hj]
    rw[e k hk2];refine⟨(h k hk2).1,fun v hv hvl=> ?_⟩;obtain⟨j,hj,e2⟩:=(h k hk2).2 v hv hvl;exact⟨j,hj,by rw[e j (by omega),e2]⟩
   ·obtain rfl:k=pre.length:=by simp at hk;omega
    have e:at1 (pre++[x]) pre.length=x:=by simp[at1,List.getD_eq_getElem?_getD]
    rw[e];refine⟨hp.1.1,fun v hv hvl=> ?_⟩;obtain⟨j,hj,e2⟩:=h1 v hv (by omega);exact⟨j,hj,by rw[←e2];simp[at1,List.getD_eq_getElem?_getD,List.getElem?_append_left hj]⟩
variable {l:L1}
theorem isPart_iff :bM l=true↔RG l/\1<=l.length/\l.length<=8:=by
 simp only[bM,Bool.and_eq_true,decide_eq_true_eq];constructor
 ·rintro⟨h1,h2⟩;have:=abO l (-1) [] (by omega) (fun v h1 h2=>by omega) (fun k hk=>by simp at hk) h1;exact⟨by simpa using this,by omega⟩
 ·rintro⟨h1,h2⟩;exact⟨ab5 l (-1) [] (by omega) (fun v h1 h2=>by omega) (fun j hj=>by simp at hj) (by simpa using h1),by omega⟩
inductive Reach (n:Nat) (M:List (List Bool)):Nat->Nat->Prop
 |refl (i:Nat):Reach n M i i
 |step {i a b:Nat}:Reach n M i a->a<n->b<n->atB M a b=true->Reach n M i b
variable {n:Nat}{M:List (List Bool)}
theorem Reach.trans {a b:Nat}(h:Reach n M i a)(h2:Reach n M a b):Reach n M i b:=by
 induction h2 with
 |refl=>exact h
 |step _ ha hb hm ih=>exact .step ih ha hb hm
def afX (n:Nat)(M:List (List Bool)):Prop:=∀a b,a<n->b<n->atB M a b=true->atB M b a=true
theorem Reach.symm (hs:afX n M){a:Nat}(h:Reach n M i a):Reach n M a i:=by
 induction h with
 |refl=>exact .refl _
 |step _ ha hb hm ih=>exact(Reach.step (.refl _) hb ha (hs _ _ ha hb hm)).trans ih
theorem Reach.lt {a:Nat}(h:Reach n M i a)(hi:i<n):a<n:=by
 induction h with
 |refl=>exact hi
 |step _ _ hb _ _=>exact hb
variable {M':List (List Bool)}
theorem Reach.mono (hm:∀a b,a<n->b<n->atB M a b=true->atB M' a b=true){a:Nat}(h:Reach n M i a):Reach n M' i a:=by
 induction h with
 |refl=>exact .refl _
 |step _ ha hb h ih=>exact .step ih ha hb (hm _ _ ha hb h)
def vS (n:Nat)(M:List (List Bool))(l:L1):Prop:=l.length=n/\RG l/\∀i k,i<n->k<n->(at1 l i=at1 l k↔Reach n M i k)
theorem vS.unique {a b:L1}(ha:vS n M a)(hb:vS n M b):a=b:=
 RG.unique (by rw[ha.1,hb.1]) ha.2.1 hb.2.1 fun i k hi hk=>by
  rw[ha.1]at hi hk;rw[ha.2.2 i k hi hk,hb.2.2 i k hi hk]
structure Spr (n:Nat) (M:List (List Bool)) (x:Int) (o o':L1):Prop where
 len:o'.length=o.length
 old:∀k<n,at1 o k=x->at1 o' k=x
 new:∀k<n,at1 o' k=at1 o k\/(at1 o' k=x/\∃s<n,at1 o s=x/\Reach n M s k)
theorem Spr.refl {x:Int}(o:L1):Spr n M x o o:=⟨rfl,fun _ _ h=>h,fun _ _=> .inl rfl⟩
theorem Spr.trans {x:Int}{a b c:L1}(h:Spr n M x a b)(h':Spr n M x b c):Spr n M x a c:=by
 refine⟨h'.len.trans h.len,fun k hk e=>h'.old k hk (h.old k hk e),fun k hk=> ?_⟩;rcases h'.new k hk with e|⟨e,s,hs,e2,hr⟩
 ·rw[e];exact h.new k hk
 ·refine .inr ⟨e,?_⟩;rcases h.new s hs with e3|⟨_,t,ht,e4,hr2⟩
  ·exact⟨s,hs,by omega,hr⟩
  ·exact⟨t,ht,e4,hr2.trans hr⟩
variable {o:L1}
theorem V4 {x:Int}{a b:Nat}(hl:o.length=n)(ha:a<n)(hb:b<n):Spr n M x o (spB M x a b o)/\(at1 o a=x->atB M a b=true->at1 (spB M x a b o) b=x):=by
 unfold spB;split
 ·rename_i h;have hs:=fun k=>qA (r:=o) (j:=b) (v:=x) k (by omega);refine⟨⟨by simp,fun k hk e=>by rw[hs];split<;>simp_all,fun k hk=> ?_⟩,fun _ _=>by rw[hs,if_pos rfl]⟩;rw[hs];split
  ·subst_vars;exact .inr ⟨rfl,a,ha,h.1,.step (.refl _) ha hb h.2⟩
  ·exact .inl rfl
 ·rename_i h;exact⟨.refl o,fun h1 h2=>absurd ⟨h1,h2⟩ h⟩
variable {f:Nat->L1->L1}
theorem JB {m:Nat}{x:Int}(hf:∀i o,i<m->o.length=n->Spr n M x o (f i o))(hl:o.length=n):Spr n M x o (loopN m o f):=by
 refine loopN_inv (fun _ o'=>Spr n M x o o') (.refl o) fun i o' hi h=>h.trans (hf i o' hi (h.len.trans hl))
theorem acN {x:Int}{a:Nat}(ha:a<n)(hl:o.length=n):Spr n M x o (spA n M x a o):=JB (fun i o hi hl=>(V4 hl ha hi).1) hl
variable {t:Nat}
theorem I7 {x:Int}(hl:o.length=n):Spr n M x o (spS n M x t o):=JB (fun i o hi hl=>acN hi hl) hl
theorem ab3 {m:Nat}(hi:i<m)(R:L1->L1->Prop)(hr:∀o,R o o)(ht:∀a b c,R a b->R b c->R a c)(n:Nat)(hl:o.length=n)(hlen:∀i o,i<m->o.length=n->(f i o).length=n/\R o (f i o)):∃p,R o p/\p.length=n/\R (f i p) (loopN m o f):=by
 induction m with
 |zero=>omega
 |succ m ih=>
  have hall:∀k≤m,(loopN k o f).length=n/\R o (loopN k o f):=by
   intro k hk
   induction k with
   |zero=>exact⟨hl,hr o⟩
   |succ k ihk=>
    rw[aA];have h1:=ihk (by omega);have h2:=hlen k _ (by omega) h1.1;exact⟨h2.1,ht _ _ _ h1.2 h2.2⟩
  rw[aA];by_cases him:i=m
  ·subst him;exact⟨_,(hall i (by omega)).2,(hall i (by omega)).1,hr _⟩
  ·obtain⟨p,h1,h2,h3⟩:=ih (by omega) fun i o hi hl=>hlen i o (by omega) hl;exact⟨p,h1,h2,ht _ _ _ h3 (hlen m _ (by omega) (hall m (by omega)).1).2⟩
theorem WR {x:Int}(hl:o.length=n)(hsame:∀k<n,at1 (spS n M x t o) k=x->at1 o k=x){a b:Nat}(ha:a<n)(hb:b<n)(h1:at1 o a=x)(h2:atB M a b=true):at1 o b=x:=by
 refine hsame b hb ?_;unfold spS;obtain⟨p,hp1,hp2,hp3⟩:=ab3 (f:=spA n M x) (o:=o) ha (Spr n M x) (fun o=> .refl o) (fun _ _ _=> .trans) n hl (fun i o hi hl=>⟨(acN hi hl).len.trans hl,acN hi hl⟩);refine hp3.old b hb ?_;unfold spA;obtain⟨q,hq1,hq2,hq3⟩:=ab3 (f:=spB M x a) (o:=p) hb (Spr n M x) (fun o=> .refl o) (fun _ _ _=> .trans) n hp2 (fun i o hi hl=>⟨(V4 hl ha hi).1.len.trans hl,(V4 hl ha hi).1⟩);exact hq3.old b hb ((V4 hq2 ha hb).2 (hq1.old a ha (hp1.old a ha h1)) h2)
def cnt (x:Int)(o:L1):Nat:=(List.range o.length).countP fun k=>decide (at1 o k=x)
theorem aBY (x:Int)(o:L1):cnt x o<=o.length:=by
 have:=List.countP_le_length (p:=fun k=>decide (at1 o k=x)) (l:=List.range o.length);simpa[cnt]using this
theorem RA {α:Type}{p q:α->Bool}:∀{l:List α},(∀x∈l,p x=true->q x=true)->(∃x∈l,q x=true/\p x=false)->l.countP p<l.countP q
 |[],_,h=>by obtain⟨_,h,_⟩:=h;cases h
 |y::l,hm,h=>by
  have hle:l.countP p<=l.countP q:=List.countP_mono_left fun x hx=>hm x (List.mem_cons_of_mem _ hx);obtain⟨x,hx,h1,h2⟩:=h;rw[List.countP_cons,List.countP_cons];rcases List.mem_cons.1 hx with rfl|hx
  ·simp[h1,h2];omega
  ·have:=RA (fun x hx=>hm x (List.mem_cons_of_mem _ hx)) ⟨x,hx,h1,h2⟩;have:=hm y (by simp);by_cases hp:p y=true
   ·simp[hp,this hp];omega
   ·simp[hp];omega
variable {o':L1}
theorem cnt_lt {x:Int}(hl:o.length=n)(h:Spr n M x o o')(hne:¬∀k<n,at1 o' k=x->at1 o k=x):cnt x o<cnt x o':=by
 unfold cnt;rw[h.len];refine RA (fun k hk hp=> ?_) ?_
 ·have:=h.old k (by rw[←hl];exact List.mem_range.1 hk) (by simpa using hp);simpa using this
 ·rw[Classical.not_forall]at hne;obtain⟨k,hk⟩:=hne;rw[Classical.not_forall]at hk;obtain⟨hkn,hk⟩:=hk;rw[Classical.not_imp]at hk;exact⟨k,List.mem_range.2 (by omega),by simpa using hk.1,by simpa using hk.2⟩
theorem aaG {x:Int}(hl:o.length=n)(hx:∃s<n,at1 o s=x){a b:Nat}(ha:a<n)(hb:b<n)(h1:at1 (spread n M x o) a=x)(h2:atB M a b=true):at1 (spread n M x o) b=x:=by
 have hr:∀i,Spr n M x o (loopN i o (spS n M x)):=fun i=>JB (fun _ _ _ hl=>I7 hl) hl
 have key:∀i,(∃j<i,∀k<n,at1 (loopN (j+1) o (spS n M x)) k=x->at1 (loopN j o (spS n M x)) k=x)\/i+1<=cnt x (loopN i o (spS n M x)):=by
  intro i
  induction i with
  |zero=>
   refine .inr ?_;obtain⟨s,hs,e⟩:=hx;show 1<=cnt x o;unfold cnt;exact List.one_le_countP_iff.2 ⟨s,List.mem_range.2 (by omega),by simpa using e⟩
  |succ i ih=>
   rcases ih with⟨j,hj,h⟩|ih
   ·exact .inl ⟨j,by omega,h⟩
   ·by_cases hne:∀k<n,at1 (loopN (i+1) o (spS n M x)) k=x->at1 (loopN i o (spS n M x)) k=x
    ·exact .inl ⟨i,by omega,hne⟩
    ·refine .inr ?_;have hli:=(hr i).len.trans hl;have:=cnt_lt hli (by rw[aA];exact I7 (t:=i) hli) hne;omega
 rcases key n with⟨j,hj,h⟩|h
 ·-- from there on the label is closed
  have hclo:∀i,j<=i->i<=n->∀k<n,at1 (loopN i o (spS n M x)) k=x->at1 (loopN j o (spS n M x)) k=x:=by
   intro i hji hin
   induction i with
   |zero=>obtain rfl:j=0:=by omega
          exact fun k _ e=>e
   |succ i ih=>
    by_cases hji2:j=i+1
    ·subst hji2;exact fun k _ e=>e
    ·intro k hk e;have hli:=(hr i).len.trans hl;have hlj:=(hr j).len.trans hl;refine ih (by omega) (by omega) k hk ?_;rw[aA]at e;rcases(I7 (M:=M) (x:=x) (t:=i) hli).new k hk with e2|⟨e6,s,hs,e3,hre⟩
     ·rw[←e2];exact e
     ·have e4:=ih (by omega) (by omega) s hs e3;have hjc:∀a b,a<n->b<n->at1 (loopN j o (spS n M x)) a=x->atB M a b=true->at1 (loopN j o (spS n M x)) b=x:=fun a b ha hb h1 h2=>WR (t:=j) hlj (by rw[aA]at h;exact h) ha hb h1 h2
      have e5:at1 (loopN j o (spS n M x)) k=x:=by
       clear hk e e6
       induction hre with
       |refl=>exact e4
       |step _ ha hb hm ih=>exact hjc _ _ ha hb ih hm
      have hji3:Spr n M x (loopN j o (spS n M x)) (loopN i o (spS n M x)):=by
       obtain⟨d,rfl⟩:∃d,i=j+d:=⟨i-j,by omega⟩;clear ih e e6 e3 e4 e5 hjc hre hli hin hji hji2
       induction d with
       |zero=>exact .refl _
       |succ d ih=>exact ih.trans (by rw[show j+(d+1)=(j+d)+1 by omega,aA];exact I7 ((hr _).len.trans hl))
      exact hji3.old k hk e5
  have hlj:=(hr j).len.trans hl;have e1:=hclo n (by omega) (by omega) a ha h1;have e2:=WR (t:=j) hlj (by rw[aA]at h;exact h) ha hb e1 h2
  have hjn:Spr n M x (loopN j o (spS n M x)) (loopN n o (spS n M x)):=by
   obtain⟨d,hd⟩:∃d,n=j+d:=⟨n-j,by omega⟩
   have:∀d,Spr n M x (loopN j o (spS n M x)) (loopN (j+d) o (spS n M x)):=by
    intro d
    induction d with
    |zero=>exact .refl _
    |succ d ih=>exact ih.trans (by rw[show j+(d+1)=(j+d)+1 by omega,aA];exact I7 ((hr _).len.trans hl))
   have:=this d
   rwa [←hd]at this
  exact hjn.old b hb e2
 ·have:=aBY x (loopN n o (spS n M x));rw[(hr n).len,hl]at this;omega
theorem akC {x:Int}(hl:o.length=n):Spr n M x o (spread n M x o):=JB (fun _ _ _ hl=>I7 hl) hl
structure qL (n:Nat) (M:List (List Bool)) (i:Nat) (s:L1×Int):Prop where
 len:s.1.length=n
 nx:0<=s.2
 lt:∀k<n, -1<=at1 s.1 k/\at1 s.1 k<s.2
 done:∀k<i,0<=at1 s.1 k
 seed:∀v,0<=v->v<s.2->∃j<i,at1 s.1 j=v
 rg:∀k<n,∀v,0<=v->v<at1 s.1 k->∃j<k,at1 s.1 j=v
 clo:∀a b,a<n->b<n->0<=at1 s.1 a->(at1 s.1 b=at1 s.1 a↔Reach n M a b)
theorem qL.step {n i:Nat}{M:List (List Bool)}(hs:afX n M)(hi:i<n){s:L1×Int}(h:qL n M i s){o:L1}(hl:o.length=n)(hx:∀k<n,(at1 o k=s.2↔Reach n M i k))(hold:∀k<n,¬Reach n M i k->at1 o k=at1 s.1 k)(h0:at1 s.1 i<0):qL n M (i+1) (o,s.2+1):=by
 have hnone:∀k<n,Reach n M i k->at1 s.1 k= -1:=fun k hk hr=>by
  have h1:=h.lt k hk;by_cases h2:0<=at1 s.1 k
  ·have:=(h.clo k i hk hi h2).2 (hr.symm hs);omega
  ·omega
 have hge:∀k<n,Reach n M i k->i<=k:=fun k hk hr=>by
  by_cases hik:i<=k
  ·exact hik
  ·have:=h.done k (by omega);have:=hnone k hk hr;omega
 have hkeep:∀j<i,at1 o j=at1 s.1 j:=fun j hj=>hold j (by omega) fun hr=>by have:=hge j (by omega) hr;omega
 refine⟨hl,by simp only;have:=h.nx;omega,fun k hk=> ?_,fun k hk=> ?_,fun v h1 h2=> ?_,fun k hk v h1 h2=> ?_,fun a b ha hb h1=> ?_⟩
 ·simp only;by_cases hr:Reach n M i k
  ·rw[(hx k hk).2 hr];have:=h.nx;omega
  ·rw[hold k hk hr];have:=h.lt k hk;omega
 ·simp only;by_cases hr:Reach n M i k
  ·rw[(hx k (by omega)).2 hr];exact h.nx
  ·rw[hold k (by omega) hr];have:k≠i:=fun e=>hr (e▸ .refl _);exact h.done k (by omega)
 ·simp only at h2|-
  by_cases hv:v=s.2
  ·exact⟨i,by omega,by rw[hv];exact(hx i hi).2 (.refl _)⟩
  ·obtain⟨j,hj,e⟩:=h.seed v h1 (by omega);exact⟨j,by omega,by rw[hkeep j hj,e]⟩
 ·simp only at h2|-
  by_cases hr:Reach n M i k
  ·rw[(hx k hk).2 hr]at h2;obtain⟨j,hj,e⟩:=h.seed v h1 h2;have:=hge k hk hr;exact⟨j,by omega,by rw[hkeep j hj,e]⟩
  ·rw[hold k hk hr]at h2;obtain⟨j,hj,e⟩:=h.rg k hk v h1 h2;refine⟨j,hj,?_⟩;rw[hold j (by omega),e];intro hrj;have:=hnone j (by omega) hrj;omega
 ·simp only at h1|-
  by_cases hra:Reach n M i a
  ·rw[(hx a ha).2 hra];rw[hx b hb];exact⟨fun h=>(hra.symm hs).trans h,fun h=>hra.trans h⟩
  ·rw[hold a ha hra]at h1|-
   by_cases hrb:Reach n M i b
   ·rw[(hx b hb).2 hrb];have:=h.lt a ha;constructor
    ·intro e;omega
    ·intro e;exact absurd (hrb.trans (e.symm hs)) hra
   ·rw[hold b hb hrb];exact h.clo a b ha hb h1
variable {s:L1×Int}
theorem ah1 (hs:afX n M)(hi:i<n)(h:qL n M i s):qL n M (i+1) (zC n M i s):=by
 unfold zC;split
 ·rename_i h0;exact⟨h.len,h.nx,h.lt,fun k hk=>by by_cases e:k=i;(subst e;exact h0);exact h.done k (by omega),fun v h1 h2=>by obtain⟨j,hj,e⟩:=h.seed v h1 h2;exact⟨j,by omega,e⟩,h.rg,h.clo⟩
 ·rename_i h0;have hil:i<s.1.length:=by rw[h.len];exact hi
  have hset:=fun k=>qA (r:=s.1) (j:=i) (v:=s.2) k hil;have hl0:(s.1.set i s.2).length=n:=by simp[h.len]
  have hsp:=akC (M:=M) (x:=s.2) hl0;have hcl:=fun a b ha hb=>aaG (M:=M) (x:=s.2) hl0 ⟨i,hi,by rw[hset,if_pos rfl]⟩ (a:=a) (b:=b) ha hb
  have hseed:∀k<n,(at1 (s.1.set i s.2) k=s.2↔k=i):=fun k hk=>by
   rw[hset];split
   ·simp_all
   ·rename_i hne;have:=h.lt k hk;constructor
    ·intro e;omega
    ·intro e;exact absurd e.symm hne
  have hx:∀k<n,(at1 (spread n M s.2 (s.1.set i s.2)) k=s.2↔Reach n M i k):=fun k hk=>by
   constructor
   ·intro e;rcases hsp.new k hk with e2|⟨_,t,ht,e3,hr⟩
    ·obtain rfl:=(hseed k hk).1 (by omega);exact .refl _
    ·obtain rfl:=(hseed t ht).1 e3;exact hr
   ·intro hr;clear hk
    induction hr with
    |refl=>exact hsp.old i hi ((hseed i hi).2 rfl)
    |step _ ha hb hm ih=>exact hcl _ _ ha hb ih hm
  have hold:∀k<n,¬Reach n M i k->at1 (spread n M s.2 (s.1.set i s.2)) k=at1 s.1 k:=fun k hk hn=>by
   rcases hsp.new k hk with e2|⟨e,_⟩
   ·rw[e2,hset,if_neg];rintro rfl;exact hn (.refl _)
   ·exact absurd ((hx k hk).1 e) hn
  exact h.step hs hi (by rw[hsp.len,hl0]) hx hold (by omega)
theorem qL.start :qL n M 0 (List.replicate n (-1),0):=by
 have hrep:∀k<n,at1 (List.replicate n (-1)) k= -1:=fun k hk=>by simp[at1,List.getD_eq_getElem?_getD,hk]
 exact⟨by simp,by simp,fun k hk=>by simp only;rw[hrep k hk];omega,fun k hk=>by omega,fun v h1 h2=>by simp only at h2;omega,fun k hk v h1 h2=>by simp only at h2;rw[hrep k hk]at h2;omega,fun a b ha hb h1=>by simp only at h1;rw[hrep a ha]at h1;omega⟩
theorem qL.is (h:qL n M n s):vS n M s.1:=by
 refine⟨h.len,fun k hk=>⟨h.done k (by rw[h.len]at hk;exact hk),h.rg k (by rw[h.len]at hk;exact hk)⟩,fun i k hi hk=> ?_⟩;rw[eq_comm];exact h.clo i k hi hk (h.done i hi)
theorem V6 (hs:afX n M):vS n M (ae8 n M).1:=
 qL.is (s:=ae8 n M) (loopN_inv (qL n M) .start fun i s hi h=>ah1 hs hi h)
def dfs (n:Nat)(m:L2)(c:Int):Nat->Nat->L1->L1
 |0,_,o=>o
 |f+1,i,o=>loopN n (o.set i c) fun k o=>if 0<at2 m i k/\at1 o k<0 then dfs n m c f k o else o
def DY (n:Nat)(m:L2)(i:Nat)(s:L1×Int):L1×Int:=if at1 s.1 i<0 then(dfs n m s.2 n i s.1,s.2+1)else s
def VW (n:Nat)(m:L2):L1×Int:=loopN n (List.replicate n (-1),0) (DY n m)
def negs (n:Nat)(o:L1):Nat:=(List.range n).countP fun k=>decide (at1 o k<0)
theorem abS (h:∀k<n,0<=at1 o k->0<=at1 o' k):negs n o'<=negs n o:=
 List.countP_mono_left fun k hk hp=>by
  have:=h k (List.mem_range.1 hk);simp only[decide_eq_true_eq]at hp|-
  omega
variable {c:Int}
theorem OD (hl:o.length=n)(hi:i<n)(h:at1 o i<0)(hc:0<=c):negs n (o.set i c)<negs n o:=by
 have hs:=fun k=>qA (r:=o) (j:=i) (v:=c) k (by omega);refine RA (fun k hk hp=> ?_) ⟨i,List.mem_range.2 hi,by simpa using h,?_⟩
 ·simp only[decide_eq_true_eq]at hp|-
  rw[hs]at hp;split at hp<;>omega
 ·rw[hs,if_pos rfl];simp;omega
theorem alS (n:Nat)(o:L1):negs n o<=n:=by
 have:=List.countP_le_length (p:=fun k=>decide (at1 o k<0)) (l:=List.range n);simpa[negs]using this
structure Dfs (n:Nat) (M:List (List Bool)) (c:Int) (i:Nat) (o o':L1):Prop where
 len:o'.length=n
 keep:∀k<n,0<=at1 o k->at1 o' k=at1 o k
 new:∀k<n,at1 o' k=at1 o k\/(at1 o k<0/\at1 o' k=c/\Reach n M i k)
 self:at1 o' i=c
 clo:∀a b,a<n->b<n->at1 o a<0->at1 o' a=c->atB M a b=true->0<=at1 o' b
def aC4 (n:Nat)(M:List (List Bool))(c:Int)(i:Nat)(o:L1)(j:Nat)(p:L1):Prop:=
 p.length=n/\(∀k<n,0<=at1 o k->at1 p k=at1 o k)/\(∀k<n,at1 p k=at1 o k\/(at1 o k<0/\at1 p k=c/\Reach n M i k))/\at1 p i=c/\(∀k<n,0<=at1 (o.set i c) k->0<=at1 p k)/\
    (∀a b,a<n->b<n->at1 o a<0->at1 p a=c->atB M a b=true->(a=i->b<j)->0<=at1 p b)
theorem avG {m:L2}(hM:∀a b,a<n->b<n->(0<at2 m a b↔atB M a b=true))(hc:0<=c):∀(f i:Nat) (o:L1),o.length=n->i<n->at1 o i<0->negs n o<=f->Dfs n M c i o (dfs n m c f i o)
 |0,i,o,hl,hi,h0,hf=>by
  have:=OD hl hi h0 hc;omega
 |f+1,i,o,hl,hi,h0,hf=>by
  have hs:=fun k=>qA (r:=o) (j:=i) (v:=c) k (by omega);have hng:=OD hl hi h0 hc
  have key:∀j≤n,aC4 n M c i o j (loopN j (o.set i c) fun k o=>if 0<at2 m i k/\at1 o k<0 then dfs n m c f k o else o):=by
   intro j hj;refine loopN_inv (n:=j) (f:=fun k o=>if 0<at2 m i k/\at1 o k<0 then dfs n m c f k o else o) (aC4 n M c i o) ?_ fun t p ht hp=> ?_
   ·refine⟨by simp[hl],fun k hk h=> ?_,fun k hk=> ?_,by rw[hs,if_pos rfl],fun k hk h=>h,fun a b ha hb h1 h2 h3 h4=> ?_⟩
    ·rw[hs,if_neg];rintro rfl;omega
    ·rw[hs];split
     ·subst_vars;exact .inr ⟨h0,rfl,.refl _⟩
     ·exact .inl rfl
    ·rw[hs]at h2;split at h2
     ·rename_i e;exact absurd (h4 e.symm) (by omega)
     ·omega
   ·obtain⟨p1,p2,p3,p4,p5,p6⟩:=hp;split
    ·rename_i hcd;have hng2:negs n p<=f:=by have:=abS (n:=n) p5;omega
     have hd:=avG hM hc f t p p1 (by omega) hcd.2 hng2;have hit:Reach n M i t:= .step (.refl _) hi (by omega) ((hM i t hi (by omega)).1 hcd.1);refine⟨hd.len,fun k hk h=> ?_,fun k hk=> ?_,?_,fun k hk h=> ?_,fun a b ha hb h1 h2 h3 h4=> ?_⟩
     ·rw[hd.keep k hk (by rw[p2 k hk h];exact h),p2 k hk h]
     ·rcases hd.new k hk with e|⟨e1,e2,e3⟩
      ·rw[e];exact p3 k hk
      ·refine .inr ⟨?_,e2,hit.trans e3⟩;rcases p3 k hk with e4|⟨e4,_⟩
       ·omega
       ·exact e4
     ·rw[hd.keep i hi (by omega),p4]
     ·rw[hd.keep k hk (p5 k hk h)];exact p5 k hk h
     ·by_cases hpa:at1 p a=c
      ·-- it had its label before
       by_cases hai:a=i
       ·by_cases hbt:b=t
        ·subst hbt;rw[hd.self];exact hc
        ·have hb2:=p6 a b ha hb h1 hpa h3 (fun e=>by have:=h4 e;omega);rw[hd.keep b hb hb2];exact hb2
       ·have hb2:=p6 a b ha hb h1 hpa h3 (fun e=>absurd e hai);rw[hd.keep b hb hb2];exact hb2
      ·have hpa0:at1 p a<0:=by
        rcases p3 a ha with e|⟨_,e,_⟩
        ·omega
        ·exact absurd e hpa
       exact hd.clo a b ha hb hpa0 h2 h3
    ·rename_i hcd;refine⟨p1,p2,p3,p4,p5,fun a b ha hb h1 h2 h3 h4=> ?_⟩;by_cases hai:a=i
     ·by_cases hbt:b=t
      ·subst hbt;by_cases h5:0<=at1 p b
       ·exact h5
       ·exact absurd ⟨(hM i b hi hb).2 (hai▸h3),by omega⟩ hcd
      ·exact p6 a b ha hb h1 h2 h3 (fun e=>by have:=h4 e;omega)
     ·exact p6 a b ha hb h1 h2 h3 (fun e=>absurd e hai)
  obtain⟨p1,p2,p3,p4,p5,p6⟩:=key n (Nat.le_refl n);exact⟨p1,p2,p3,p4,fun a b ha hb h1 h2 h3=>p6 a b ha hb h1 h2 h3 fun _=>hb⟩
theorem aiP {m:L2}(hM:∀a b,a<n->b<n->(0<at2 m a b↔atB M a b=true))(hs:afX n M)(hi:i<n)(h:qL n M i s):qL n M (i+1) (DY n m i s):=by
 unfold DY;split
 ·rename_i h0;have hd:=avG hM h.nx n i s.1 h.len hi h0 (alS _ _)
  have hx:∀k<n,(at1 (dfs n m s.2 n i s.1) k=s.2↔Reach n M i k):=fun k hk=>by
   constructor
   ·intro e;rcases hd.new k hk with e2|⟨_,_,hr⟩
    ·have:=h.lt k hk;omega
    ·exact hr
   ·intro hr;clear hk
    induction hr with
    |refl=>exact hd.self
    | @step a b _ ha hb hm ih=>
     have hla:=h.lt a ha
     have ha0:at1 s.1 a<0:=by
      rcases hd.new a ha with e2|⟨e,_⟩
      ·omega
      ·exact e
     have hb1:=hd.clo a b ha hb ha0 ih hm;rcases hd.new b hb with e2|⟨_,e,_⟩
     ·exfalso;have:=(h.clo b a hb ha (by omega)).2 (.step (.refl _) hb ha (hs _ _ ha hb hm));omega
     ·exact e
  refine h.step hs hi hd.len hx (fun k hk hr=> ?_) h0;rcases hd.new k hk with e|⟨_,_,e⟩
  ·exact e
  ·exact absurd e hr
 ·rename_i h0;exact⟨h.len,h.nx,h.lt,fun k hk=>by by_cases e:k=i;(subst e;omega);exact h.done k (by omega),fun v h1 h2=>by obtain⟨j,hj,e⟩:=h.seed v h1 h2;exact⟨j,by omega,e⟩,h.rg,h.clo⟩
theorem ajU {m:L2}(hM:∀a b,a<n->b<n->(0<at2 m a b↔atB M a b=true))(hs:afX n M):vS n M (VW n m).1:=
 qL.is (s:=VW n m) (loopN_inv (qL n M) .start fun i s hi h=>aiP hM hs hi h)
theorem asD {m:L2}(hM:∀a b,a<n->b<n->(0<at2 m a b↔atB M a b=true))(hs:afX n M):(VW n m).1=(ae8 n M).1:=(ajU hM hs).unique (V6 hs)
def ed (x y:Str)(tr:Bool):Nat->Nat->Int
 |0,j=>j
 |i+1,0=>(i+1:Nat)
 |i+1,j+1=>
  if nE x y tr (i+1) (j+1)=true then min (if chr x i=chr y j then ed x y tr i j else 1+min (min (ed x y tr i (j+1)) (ed x y tr (i+1) j)) (ed x y tr i j)) (ed x y tr (i-1) (j-1)+1)
  else if chr x i=chr y j then ed x y tr i j else 1+min (min (ed x y tr i (j+1)) (ed x y tr (i+1) j)) (ed x y tr i j)
termination_by i j=>i+j
decreasing_by all_goals omega
variable {j:Nat}
section
variable {x y:Str}{tr:Bool}
theorem ed_zero (j:Nat):ed x y tr 0 j=j:=by rw[ed]
theorem ed_zero' (i:Nat):ed x y tr i 0=i:=by cases i<;>simp[ed]
def edV (x y:Str)(tr:Bool)(i j:Nat):Int:=if chr x i=chr y j then ed x y tr i j else 1+min (min (ed x y tr i (j+1)) (ed x y tr (i+1) j)) (ed x y tr i j)
theorem uP (i j:Nat):ed x y tr (i+1) (j+1)=if nE x y tr (i+1) (j+1)=true then min (edV x y tr i j) (ed x y tr (i-1) (j-1)+1)else edV x y tr i j:=by rw[ed];rfl
theorem aCN:∀(s i j:Nat),i+j=s->ed x y tr i (j+1)<=ed x y tr i j+1/\ed x y tr i j<=ed x y tr i (j+1)+1/\ed x y tr (i+1) j<=ed x y tr i j+1/\ed x y tr i j<=ed x y tr (i+1) j+1/\ed x y tr (i+1) (j+1)<=ed x y tr i j+1:=by
 intro s
 induction s using Nat.strongRecOn with
 |_ s ih=>
  intro i j hs
  have hsw:∀i j,nE x y tr (i+1) (j+1)=true->∃i' j',i=i'+1/\j=j'+1:=fun i j h=>by
   simp only[nE,Bool.and_eq_true,decide_eq_true_eq]at h;exact⟨i-1,j-1,by omega,by omega⟩
  have hE:ed x y tr (i+1) (j+1)<=ed x y tr i j+1:=by
   rw[uP];unfold edV;split<;>split<;>omega
  refine⟨?_,?_,?_,?_,hE⟩
  ·cases i with
   |zero=>rw[ed_zero,ed_zero];omega
   |succ i=>
    have h1:=ih (i+j) (by omega) i j rfl;rw[uP];unfold edV;split<;>split<;>omega
  ·cases i with
   |zero=>rw[ed_zero,ed_zero];omega
   |succ i=>
    have h1:=ih (i+j) (by omega) i j rfl;rw[uP];unfold edV;split
    ·rename_i h;obtain⟨i',j',rfl,rfl⟩:=hsw i j h;have h2:=ih (i'+j') (by omega) i' j' rfl;simp only[Nat.add_sub_cancel];split<;>omega
    ·split<;>omega
  ·cases j with
   |zero=>rw[ed_zero',ed_zero'];omega
   |succ j=>
    have h1:=ih (i+j) (by omega) i j rfl;rw[uP];unfold edV;split<;>split<;>omega
  ·cases j with
   |zero=>rw[ed_zero',ed_zero'];omega
   |succ j=>
    have h1:=ih (i+j) (by omega) i j rfl;rw[uP];unfold edV;split
    ·rename_i h;obtain⟨i',j',rfl,rfl⟩:=hsw i j h;have h2:=ih (i'+j') (by omega) i' j' rfl;simp only[Nat.add_sub_cancel];split<;>omega
    ·split<;>omega
theorem aCG (i j:Nat):min (min (ed x y tr i (j+1)+1) (ed x y tr (i+1) j+1)) (ed x y tr i j+if chr x i=chr y j then 0 else 1)=edV x y tr i j:=by
 have h:=aCN (x:=x) (y:=y) (tr:=tr) (i+j) i j rfl;unfold edV;split<;>omega
def edR (x y:Str)(tr:Bool)(i k:Nat):L1:=(List.range k).map (ed x y tr i)
theorem amF (h:j<k):at1 (edR x y tr i k) j=ed x y tr i j:=by simp[at1,edR,List.getD_eq_getElem?_getD,h]
theorem WG (hi:i<n)(h:j<k):at2 ((List.range n).map fun i=>edR x y tr i k) i j=ed x y tr i j:=by
 have:=amF (x:=x) (y:=y) (tr:=tr) (i:=i) h;simpa[at2,at1,List.getD_eq_getElem?_getD,hi]using this
theorem aq3 :XE x y tr i ((List.range i).map fun i=>edR x y tr i (y.length+1))=edR x y tr i (y.length+1):=by
 have h:(fun(j:Nat) (r:L1)=>r.length=y.length+1/\∀k<j,at1 r k=ed x y tr i k) (y.length+1) (XE x y tr i ((List.range i).map fun i=>edR x y tr i (y.length+1))):=by
  refine loopN_inv (fun(j:Nat) (r:L1)=>r.length=y.length+1/\∀k<j,at1 r k=ed x y tr i k) ⟨by simp,by omega⟩ fun j r hj ⟨h1,h2⟩=> ?_
  have h3:edOne x y ((List.range i).map fun i=>edR x y tr i (y.length+1)) i r j=(if i=0 then(j:Int)else if j=0 then(i:Int)else edV x y tr (i-1) (j-1)):=by
   unfold edOne;split
   ·rfl
   ·split
    ·rfl
    ·obtain⟨i,rfl⟩:∃k,i=k+1:=⟨i-1,by omega⟩;obtain⟨j,rfl⟩:∃k,j=k+1:=⟨j-1,by omega⟩;simp only[Nat.add_sub_cancel];rw[WG (by omega) (by omega),WG (by omega) (by omega),h2 j (by omega)];rfl
  unfold xJ abP;have hset:=qA (r:=r) (j:=j) (v:=edOne x y ((List.range i).map fun i=>edR x y tr i (y.length+1)) i r j);split
  ·rename_i hw;have hw2:=hw;simp only[nE,Bool.and_eq_true,decide_eq_true_eq]at hw2;refine⟨by simp[h1],fun k hk=> ?_⟩;rw[qA _ (by simp;omega),hset _ (by omega),hset _ (by omega),if_pos rfl];split
   ·rename_i e;subst e;rw[h3,if_neg (by omega),if_neg (by omega),WG (by omega) (by omega)];obtain⟨i,rfl⟩:∃k,i=k+2:=⟨i-2,by omega⟩;obtain⟨j,rfl⟩:∃k,j=k+2:=⟨j-2,by omega⟩;rw[uP,if_pos hw];rfl
   ·exact h2 k (by omega)
  ·rename_i hw;refine⟨by simp[h1],fun k hk=> ?_⟩;rw[hset _ (by omega)];split
   ·rename_i e;subst e;rw[h3];split
    ·rename_i e;rw[e,ed_zero]
    ·split
     ·rename_i e;rw[e,ed_zero']
     ·obtain⟨i,rfl⟩:∃k,i=k+1:=⟨i-1,by omega⟩;obtain⟨j,rfl⟩:∃k,j=k+1:=⟨j-1,by omega⟩;rw[uP,if_neg hw];rfl
   ·exact h2 k (by omega)
 have h1:(XE x y tr i ((List.range i).map fun i=>edR x y tr i (y.length+1))).length=y.length+1:=h.1;refine adQ (by rw[h1];simp[edR]) fun k hk=> ?_;rw[h1]at hk;rw[h.2 k hk,amF hk]
theorem aiY:JO x y tr=(List.range (x.length+1)).map fun i=>edR x y tr i (y.length+1):=by
 refine loopN_inv (fun i (T:L2)=>T=(List.range i).map fun i=>edR x y tr i (y.length+1)) rfl fun i T _ h=> ?_;rw[h,aq3,Q8]
theorem SL:jW x y=if xP x y=true then ed x y false x.length y.length else -1:=by
 unfold jW;rw[aiY,WG (by omega) (by omega)]
theorem akG (i j:Nat):0<=ed x y tr i j/\ed x y tr i j<=i+j:=by
 suffices∀s i j,i+j=s->0<=ed x y tr i j/\ed x y tr i j<=i+j from this _ i j rfl
 intro s
 induction s using Nat.strongRecOn with
 |_ s ih=>
  intro i j hs;cases i with
  |zero=>rw[ed_zero];omega
  |succ i=>
   cases j with
   |zero=>rw[ed_zero'];omega
   |succ j=>
    have h1:=ih (i+j) (by omega) i j rfl;have h2:=ih (i+(j+1)) (by omega) i (j+1) rfl;have h3:=ih (i+1+j) (by omega) (i+1) j rfl;have h4:=ih (i-1+(j-1)) (by omega) (i-1) (j-1) rfl;rw[uP];unfold edV;split<;>split<;>omega
end
theorem dV:∀(a:Str),ltL a a=false
 |[]=>rfl
 |a::x=>by have h:=dV x;unfold ltL at*;rw[Op.bytesLess,h];simp
theorem qW:∀{a b c:Str},ltL a b=true->ltL b c=true->ltL a c=true
 |_,[],_,h,_=>by unfold ltL at h;rw[Op.bytesLess]at h;cases h
 |_,_::_,[],_,h=>by unfold ltL at h;rw[Op.bytesLess]at h;cases h
 |[],_::_,_::_,_,_=>by unfold ltL;rw[Op.bytesLess]
 |a::x,b::y,c::z,h,h'=>by
  unfold ltL at*
  rw[Op.bytesLess]at*
  simp only[Bool.or_eq_true,decide_eq_true_eq,Bool.and_eq_true,beq_iff_eq]at*
  rcases h with h|⟨rfl,h⟩
  ·rcases h' with h'|⟨rfl,h'⟩
   ·exact .inl (UInt8.lt_trans h h')
   ·exact .inl h
  ·rcases h' with h'|⟨rfl,h'⟩
   ·exact .inl h'
   ·exact .inr ⟨rfl,qW h h'⟩
theorem wL:∀(a b:Str),ltL a b=true\/a=b\/ltL b a=true
 |[],[]=> .inr (.inl rfl)
 |[],_::_=> .inl (by unfold ltL;rw[Op.bytesLess])
 |_::_,[]=> .inr (.inr (by unfold ltL;rw[Op.bytesLess]))
 |a::x,b::y=>by
  unfold ltL;rw[Op.bytesLess,Op.bytesLess];simp only[Bool.or_eq_true,decide_eq_true_eq,Bool.and_eq_true,beq_iff_eq];rcases Nat.lt_trichotomy a.toNat b.toNat with h|h|h
  ·exact .inl (.inl (UInt8.lt_iff_toNat_lt.2 h))
  ·obtain rfl:=UInt8.toNat_inj.1 h;rcases wL x y with h|rfl|h
   ·exact .inl (.inr ⟨rfl,h⟩)
   ·exact .inr (.inl rfl)
   ·exact .inr (.inr (.inr ⟨rfl,h⟩))
  ·exact .inr (.inr (.inl (UInt8.lt_iff_toNat_lt.2 h)))
theorem tF {a b:Str}(h:ltL a b=true):ltL b a=false:=by
 cases h2:ltL b a with
 |false=>rfl
 |true=>have:=qW h h2;rw[dV]at this;cases this
abbrev Asc (l:List Str):Prop:=l.Pairwise fun a b=>ltL a b=true
theorem PT:∀{l:List Str},adj ltL l=true↔Asc l
 |[]=>by simp
 |[a]=>by simp[adj]
 |a::b::l=>by
  have ih:=PT (l:=b::l);simp only[adj,Bool.and_eq_true,ih,List.pairwise_cons,List.mem_cons];constructor
  ·rintro⟨h1,h2,h3⟩;refine⟨fun x hx=> ?_,h2,h3⟩;rcases hx with rfl|hx
   ·exact h1
   ·exact qW h1 (h2 x hx)
  ·rintro⟨h1,h2,h3⟩;exact⟨h1 b (.inl rfl),h2,h3⟩
theorem Asc.unique:∀{a b:List Str},Asc a->Asc b->(∀x,x∈a↔x∈b)->a=b
 |[],[],_,_,_=>rfl
 |[],y::_,_,_,h=>by have:=(h y).2 (by simp);cases this
 |x::_,[],_,_,h=>by have:=(h x).1 (by simp);cases this
 |x::a,y::b,ha,hb,h=>by
  obtain⟨ha1,ha2⟩:=List.pairwise_cons.1 ha;obtain⟨hb1,hb2⟩:=List.pairwise_cons.1 hb
  have hxy:x=y:=by
   rcases wL x y with h1|h1|h1
   ·rcases List.mem_cons.1 ((h x).1 (by simp))with e|e
    ·exact e
    ·have:=tF (hb1 x e);rw[h1]at this;cases this
   ·exact h1
   ·rcases List.mem_cons.1 ((h y).2 (by simp))with e|e
    ·exact e.symm
    ·have:=tF (ha1 y e);rw[h1]at this;cases this
  subst hxy;congr 1;refine Asc.unique ha2 hb2 fun z=> ?_;have hz:=h z;constructor
  ·intro hm;rcases List.mem_cons.1 (hz.1 (List.mem_cons_of_mem _ hm))with e|e
   ·subst e;have:=ha1 z hm;rw[dV]at this;cases this
   ·exact e
  ·intro hm;rcases List.mem_cons.1 (hz.2 (List.mem_cons_of_mem _ hm))with e|e
   ·subst e;have:=hb1 z hm;rw[dV]at this;cases this
   ·exact e
theorem GX (y:Str)(l:List Str)(x:Str):dP (y::l) x false=if ltL y x=true then y::dP l x false else if y=x then y::l else x::y::l:=by
 unfold dP sP;by_cases h:ltL y x=true
 ·simp only[List.takeWhile_cons,h,if_true,List.length_cons,List.getElem?_cons_succ,List.take_succ_cons,List.drop_succ_cons,List.cons_append];split<;>simp_all
 ·simp only[List.takeWhile_cons,h,if_false,Bool.false_eq_true,List.length_nil,List.getElem?_cons_zero,List.take_zero,List.drop_zero,Option.some.injEq];split
  ·simp_all
  ·simp_all
theorem rW:∀{l:List Str}{x z:Str},z∈dP l x false↔z∈l\/z=x
 |[],x,z=>by simp[dP,sP]
 |y::l,x,z=>by
  rw[GX];split
  ·rw[List.mem_cons,rW (l:=l),List.mem_cons,or_assoc]
  ·split
   ·subst_vars
    constructor
    ·exact .inl
    ·rintro(h|rfl)
     ·exact h
     ·simp
   ·simp only[List.mem_cons];constructor
    ·rintro(h|h|h)<;>simp[h]
    ·rintro((h|h)|h)<;>simp[h]
theorem K7:∀{l:List Str}{x:Str},Asc l->Asc (dP l x false)
 |[],x,_=>by simp[dP,sP]
 |y::l,x,h=>by
  obtain⟨h1,h2⟩:=List.pairwise_cons.1 h;rw[GX];split
  ·rename_i hlt;refine List.pairwise_cons.2 ⟨fun z hz=> ?_,K7 h2⟩;rcases rW.1 hz with hz|rfl
   ·exact h1 z hz
   ·exact hlt
  ·split
   ·exact h
   ·rename_i h3 h4
    have hxy:ltL x y=true:=by
     rcases wL x y with e|e|e
     ·exact e
     ·exact absurd e.symm h4
     ·exact absurd e h3
    refine List.pairwise_cons.2 ⟨fun z hz=> ?_,h⟩;rcases List.mem_cons.1 hz with rfl|hz
    ·exact hxy
    ·exact qW hxy (h1 z hz)
theorem A8 {f:List Str->Str->List Str}{p:Str->Prop}{g:Str->Str}(hp:∀t x,p x->f t x=dP t (g x) false)(hn:∀t x,¬p x->f t x=t):∀(l t:List Str),Asc t->Asc (l.foldl f t)/\∀z,z∈l.foldl f t↔z∈t\/∃x∈l,p x/\z=g x
 |[],t,h=>⟨h,fun z=>by simp⟩
 |y::l,t,h=>by
  by_cases hy:p y
  ·obtain⟨h1,h2⟩:=A8 hp hn l _ (K7 (x:=g y) h);simp only[List.foldl_cons,hp t y hy];refine⟨h1,fun z=> ?_⟩;rw[h2,rW];simp only[List.mem_cons,exists_eq_or_imp,hy,true_and,or_assoc]
  ·obtain⟨h1,h2⟩:=A8 hp hn l t h;simp only[List.foldl_cons,hn t y hy];refine⟨h1,fun z=> ?_⟩;rw[h2];simp only[List.mem_cons,exists_eq_or_imp,hy,false_and,false_or]
theorem M5 (s:Str):Asc (tokens s)/\∀z,z∈tokens s↔z∈ZE 32 (normal s)/\z≠[]:=by
 obtain⟨h1,h2⟩:=A8 (f:=oH) (p:=fun x=>x≠[]) (g:=id) (fun t x h=>if_pos h) (fun t x h=>if_neg h) (ZE 32 (normal s)) [] .nil;refine⟨h1,fun z=>(h2 z).trans ?_⟩;constructor
 ·rintro(h|⟨x,h3,h4,rfl⟩)
  ·cases h
  ·exact⟨h3,h4⟩
 ·rintro⟨h3,h4⟩;exact .inr ⟨z,h3,h4,rfl⟩
theorem KN (s:Str):Asc (fP s)/\∀z,z∈fP s↔∃t∈tokens s,dG t≠[]/\z=dG t:=by
 obtain⟨h1,h2⟩:=A8 (f:=nY) (p:=fun x=>dG x≠[]) (g:=dG) (fun t x h=>if_pos h) (fun t x h=>if_neg h) (tokens s) [] .nil;exact⟨h1,fun z=>(h2 z).trans (by simp)⟩
def AQ (b:List Str)(x:Str):Bool:=b.any fun y=>decide (y=x)
theorem hasL_iff {b:List Str}{x:Str}:AQ b x=true↔x∈b:=by simp[AQ]
theorem Y2 (a b:List Str):Asc (common a b)/\∀z,z∈common a b↔z∈a/\z∈b:=by
 obtain⟨h1,h2⟩:=A8 (f:=yT b) (p:=fun x=>AQ b x=true) (g:=id) (fun t x h=>if_pos h) (fun t x h=>if_neg h) a [] .nil;refine⟨h1,fun z=>(h2 z).trans ?_⟩;constructor
 ·rintro(h|⟨x,h3,h4,rfl⟩)
  ·cases h
  ·exact⟨h3,hasL_iff.1 h4⟩
 ·rintro⟨h3,h4⟩;exact .inr ⟨z,h3,hasL_iff.2 h4,rfl⟩
def mcount:List Str->List Str->Nat
 |[],_=>0
 |_::_,[]=>0
 |a::x,b::y=>if ltL a b=true then mcount x (b::y)else if ltL b a=true then mcount (a::x) y else mcount x y+1
termination_by x y=>x.length+y.length
theorem aeZ {a:List Str}{p:Str->Bool}(h:∀x∈a,p x=false):a.filter p=[]:=List.filter_eq_nil_iff.2 fun x hx=>by simp[h x hx]
theorem I6:∀{a b:List Str},Asc a->Asc b->mcount a b=(a.filter (AQ b)).length
 |[],b,_,_=>by rw[mcount];rfl
 |a::x,[],_,_=>by rw[mcount,aeZ (p:=AQ []) (fun _ _=>rfl)];rfl
 |a::x,b::y,ha,hb=>by
  obtain⟨ha1,ha2⟩:=List.pairwise_cons.1 ha;obtain⟨hb1,hb2⟩:=List.pairwise_cons.1 hb;rw[mcount];split
  ·rename_i h;rw[I6 ha2 hb,List.filter_cons_of_neg];intro hm;rcases List.mem_cons.1 (hasL_iff.1 hm)with rfl|hm
   ·rw[dV]at h;cases h
   ·have:=qW h (hb1 a hm);rw[dV]at this;cases this
  ·rename_i h;split
   ·rename_i h2;rw[I6 ha hb2];congr 1;refine List.filter_congr fun z hz=> ?_;rw[Bool.eq_iff_iff,hasL_iff,hasL_iff,List.mem_cons];constructor
    ·exact .inr
    ·rintro(rfl|h3)
     ·exfalso;rcases List.mem_cons.1 hz with rfl|hz
      ·rw[dV]at h2;cases h2
      ·have:=qW h2 (ha1 z hz);rw[dV]at this;cases this
     ·exact h3
   ·rename_i h2
    have hab:a=b:=by
     rcases wL a b with e|e|e
     ·exact absurd e h
     ·exact e
     ·exact absurd e h2
    subst hab;rw[I6 ha2 hb2,List.filter_cons_of_pos (hasL_iff.2 (by simp)),List.length_cons];congr 2;refine List.filter_congr fun z hz=> ?_;rw[Bool.eq_iff_iff,hasL_iff,hasL_iff,List.mem_cons];constructor
    ·exact .inr
    ·rintro(rfl|h3)
     ·exfalso;have:=ha1 z hz;rw[dV]at this;cases this
     ·exact h3
termination_by x y=>x.length+y.length
theorem am3 {a b:List Str}(ha:Asc a):common a b=a.filter (AQ b):=
 Asc.unique (Y2 a b).1 (List.Pairwise.filter _ ha) fun z=>by rw[(Y2 a b).2,List.mem_filter,hasL_iff]
theorem aaE {l:List Str}(hl:Asc l)(x:Str):(dP l x false).length=l.length+if AQ l x then 0 else 1:=by
 induction l with
 |nil=>simp[dP,sP,AQ]
 |cons y l ih=>
  obtain⟨h1,h2⟩:=List.pairwise_cons.1 hl;rw[GX];split
  ·rename_i h;have hyx:y≠x:=fun e=>by subst e;rw[dV]at h;cases h
   have:AQ (y::l) x=AQ l x:=by simp[AQ,hyx]
   rw[this,List.length_cons,ih h2,List.length_cons];omega
  ·split
   ·rename_i h;have:AQ (y::l) x=true:=hasL_iff.2 (by simp[h]);rw[this];simp
   ·rename_i h h3
    have:AQ (y::l) x=false:=by
     rw[Bool.eq_false_iff];intro hm;rcases List.mem_cons.1 (hasL_iff.1 hm)with e|e
     ·exact h3 e.symm
     ·have:=h1 x e;exact h this
    rw[this];simp
theorem ak6 {a b:List Str}(ha:Asc a)(hb:Asc b):(QP a b).length+(a.filter (AQ b)).length=a.length+b.length:=by
 have h1:a.foldl oC []=a:=by
  obtain⟨h1,h2⟩:=A8 (f:=oC) (p:=fun _=>True) (g:=id) (fun t x h=>rfl) (fun t x h=>absurd trivial h) a [] .nil;exact Asc.unique h1 ha fun z=>(h2 z).trans (by simp)
 have h2:∀(b t:List Str),Asc b->Asc t->(b.foldl oC t).length+(b.filter (AQ t)).length=t.length+b.length:=by
  intro b
  induction b with
  |nil=>intro t _ _;simp
  |cons y b ih=>
   intro t hb ht;obtain⟨hb1,hb2⟩:=List.pairwise_cons.1 hb;have h3:=ih (dP t y false) hb2 (K7 ht);have h4:=aaE ht y
   have h5:b.filter (AQ (dP t y false))=b.filter (AQ t):=List.filter_congr fun z hz=>by
    rw[Bool.eq_iff_iff,hasL_iff,hasL_iff,rW];constructor
    ·rintro(h|rfl)
     ·exact h
     ·have:=hb1 z hz;rw[dV]at this;cases this
    ·exact .inl
   rw[h5]at h3;simp only[List.foldl_cons,List.length_cons];show(b.foldl oC (dP t y false)).length+_=_;by_cases h:AQ t y=true
   ·rw[List.filter_cons_of_pos h,List.length_cons];rw[h]at h4;simp at h4;omega
   ·rw[List.filter_cons_of_neg h];simp only[h,Bool.false_eq_true,if_false]at h4;omega
 have h3:=h2 b a hb ha
 have h4:b.filter (AQ a)=a.filter (AQ b):=Asc.unique (List.Pairwise.filter _ hb) (List.Pairwise.filter _ ha) fun z=>by
  rw[List.mem_filter,List.mem_filter,hasL_iff,hasL_iff,and_comm]
 unfold QP;rw[h1,←h4];exact h3
theorem MB (a b:List Str):rZ a b=if nG a b=true then(if(a.length:Int)+b.length-mcount a b=0 then 1000 else(1000*(mcount a b:Int)).tdiv ((a.length:Int)+b.length-mcount a b))else 0:=by
 unfold rZ;split
 ·rename_i h;simp only[nG,jP,Bool.and_eq_true]at h;have ha:=PT.1 h.1.2;have hb:=PT.1 h.2.2;have h1:=ak6 ha hb;rw[I6 ha hb,am3 ha,ratio];have h2:((QP a b).length:Int)=a.length+b.length-(a.filter (AQ b)).length:=by omega
  rw[h2]
 ·rfl
def AL (c:UInt8):Bool:=(decide (97<=c.toNat)&&decide (c.toNat<=122))||(decide (48<=c.toNat)&&decide (c.toNat<=57))
theorem MH (c:UInt8):AL c=true↔nU c=true/\cB c=c:=by
 simp only[AL,nU,Bool.or_eq_true,Bool.and_eq_true,decide_eq_true_eq];constructor
 ·intro h;exact⟨by omega,JH (by omega)⟩
 ·rintro⟨h1,h2⟩;rcases h1 with h1|h1
  ·rcases h1 with h1|h1
   ·exact .inl h1
   ·exfalso;have:=V5 h1.1 h1.2;rw[h2]at this;omega
  ·exact .inr h1
theorem awT (c:Str):J2 c=(decide (c≠[])&&c.all AL):=by
 unfold J2 nM;rw[Bool.and_assoc];congr 1;rw[Bool.eq_iff_iff,Bool.and_eq_true,decide_eq_true_eq,List.all_eq_true,List.all_eq_true];constructor
 ·rintro⟨h1,h2⟩ x hx;refine(MH x).2 ⟨h1 x hx,?_⟩;have:=List.map_inj_left.1 (h2.trans (List.map_id c).symm) x hx;simpa using this
 ·intro h;refine⟨fun x hx=>((MH x).1 (h x hx)).1,?_⟩;exact(List.map_congr_left fun x hx=>((MH x).1 (h x hx)).2).trans (by simp)
def blkIn (l:L1)(i:Nat)(o:L2):L2:=if at1 l i=o.length then o++[[]]else o
def iV (l:L1)(i:Nat)(o:L2):L2:=(blkIn l i o).set (at1 l i).toNat (gat (blkIn l i o) (at1 l i).toNat++[(i:Int)])
def blocksP (l:L1):L2:=loopN l.length [] (iV l)
structure Z8 (l:L1) (i:Nat) (o:L2):Prop where
 lt:∀j<i,at1 l j<o.length
 ex:∀v:Int,0<=v->v<o.length->∃j<i,at1 l j=v
 len:o.length<=i
 row:∀v:Nat,v<o.length->gat o v=((List.range i).filter fun j=>decide (at1 l j=v)).map fun j:Nat=>(j:Int)
variable {r:L1}
theorem alN {o:L2}(v:Nat)(hk:k<o.length):gat (o.set k r) v=if k=v then r else gat o v:=by
 simp only[gat,List.getD_eq_getElem?_getD,List.getElem?_set];by_cases h:k=v
 ·subst h;simp[hk]
 ·simp[h]
theorem atS (o:L2)(r:L1)(v:Nat):gat (o++[r]) v=if v=o.length then r else gat o v:=by
 simp only[gat,List.getD_eq_getElem?_getD];by_cases h:v<o.length
 ·rw[List.getElem?_append_left h,if_neg (by omega)]
 ·by_cases h2:v=o.length
  ·subst h2;simp
  ·rw[if_neg h2,List.getElem?_eq_none (by simp;omega),List.getElem?_eq_none (by omega)]
theorem Z8.zero (l:L1):Z8 l 0 []:=⟨fun j hj=>by omega,fun v h1 h2=>by simp at h2;omega,by simp,fun v hv=>by simp at hv⟩
theorem Z8.le {o:L2}(h:Z8 l i o)(hr:RG l)(hi:i<l.length):0<=at1 l i/\at1 l i<=o.length:=by
 obtain⟨h1,h2⟩:=hr i hi;refine⟨h1,?_⟩;rcases Int.lt_or_le (o.length:Int) (at1 l i)with hlt|hle
 ·obtain⟨j,hj,e⟩:=h2 o.length (by omega) hlt;have:=h.lt j hj;omega
 ·exact hle
theorem Z8.step {l:L1}{i:Nat}{o:L2}(h:Z8 l i o)(hr:RG l)(hi:i<l.length):(at1 l i).toNat<(blkIn l i o).length/\Z8 l (i+1) (iV l i o):=by
 have hle:=h.le hr hi
 have hin:(blkIn l i o).length=(if at1 l i=o.length then o.length+1 else o.length)/\∀v:Nat,gat (blkIn l i o) v=if v<o.length then gat o v else[]:=by
  unfold blkIn;split
  ·refine⟨by simp,fun v=> ?_⟩;rw[atS];split
   ·rw[if_neg (by omega)]
   ·split
    ·rfl
    ·simp[gat,List.getD_eq_getElem?_getD,List.getElem?_eq_none (show o.length<=v by omega)]
  ·refine⟨rfl,fun v=> ?_⟩;split
   ·rfl
   ·simp[gat,List.getD_eq_getElem?_getD,List.getElem?_eq_none (show o.length<=v by omega)]
 have hlt:(at1 l i).toNat<(blkIn l i o).length:=by rw[hin.1];split<;>omega
 refine⟨hlt,?_⟩;have hlen:(iV l i o).length=(if at1 l i=o.length then o.length+1 else o.length):=by simp[iV,hin.1]
 refine⟨fun j hj=> ?_,fun v h1 h2=> ?_,?_,fun v hv=> ?_⟩
 ·by_cases hji:j=i
  ·subst hji;rw[hlen];split<;>omega
  ·have:=h.lt j (by omega);rw[hlen];split<;>omega
 ·rw[hlen]at h2;by_cases hv:v<o.length
  ·obtain⟨j,hj,e⟩:=h.ex v h1 hv;exact⟨j,by omega,e⟩
  ·refine⟨i,by omega,?_⟩;split at h2<;>omega
 ·have:=h.len;rw[hlen];split<;>omega
 ·rw[hlen]at hv;rw[iV,alN v hlt,hin.2,hin.2,List.range_succ,List.filter_append,List.map_append];by_cases hvi:(at1 l i).toNat=v
  ·rw[if_pos hvi];have hd:decide (at1 l i=(v:Int))=true:=by simp;omega
   simp only[List.filter_cons,hd,if_true,List.filter_nil,List.map_cons,List.map_nil];congr 1;rw[hvi];split
   ·rename_i hvo;exact h.row v hvo
   ·-- a row that is new:no earlier item has its label
    rename_i hvo;rw[List.filter_eq_nil_iff.2,List.map_nil];intro j hj;have:=h.lt j (List.mem_range.1 hj);simp;omega
  ·rw[if_neg hvi];have hd:decide (at1 l i=(v:Int))=false:=by simp;omega
   have hvo:v<o.length:=by
    split at hv
    ·omega
    ·exact hv
   simp[hd,if_pos hvo,h.row v hvo]
theorem blocksI (hr:RG l)(hi:i<=l.length):Z8 l i (loopN i [] (iV l)):=by
 induction i with
 |zero=>exact .zero l
 |succ i ih=>rw[aA];exact((ih (by omega)).step hr (by omega)).2
def dZ (m:L2)(items:L1):L2:=items.map fun x=>items.map fun y=>at2 m x.toNat y.toNat
def FL (n:Nat)(items:L1):Prop:=(∀x∈items,0<=x/\x<n)/\items.Pairwise (·<·)
structure S20 where
 best:L1
 cost:Int
 count:Int
def akK (cs:List Con)(l:L1):Bool:=cs.any fun c=>decide (c.b=(l.length:Int)-1)&&(decide (at1 l c.a.toNat=at1 l (l.length-1)) !=c.same)
def sU (m:L2)(l:L1)(k:Int)(n i:Nat):Int:=if at2 m i n>0/\at1 l i≠k then at2 m i n else if at2 m i n<0/\at1 l i=k then-at2 m i n else 0
def Y0 (m:L2)(l:L1)(k:Int)(n:Nat)(c:Int):Int:=loopN n c fun i s=>s+sU m l k n i
def MS (l:L1)(cost:Int)(s:S20):S20:=if s.cost<0\/cost<s.cost then⟨l,cost,1⟩else⟨s.best,s.cost,s.count+1⟩
def MG (cost:Int)(s:S20):Prop:=0<=s.cost/\s.cost<cost
instance(cost:Int) (s:S20):Decidable (MG cost s):=by unfold MG;infer_instance
def walk20 (m:L2)(cs:List Con):Nat->L1->Int->Int->S20->S20
 |0,l,_,cost,s=>if MG cost s then s else MS l cost s
 |d+1,l,top,cost,s=>if MG cost s then s else loopN (top+2).toNat s fun k s=>if akK cs (l++[(k:Int)])=true then s else walk20 m cs d (l++[(k:Int)]) (max top k) (Y0 m l k l.length cost) s
def uG (m:L2)(cs:List Con)(d:Nat)(l:L1)(top cost:Int)(k:Nat)(s:S20):S20:=if akK cs (l++[(k:Int)])=true then s else walk20 m cs d (l++[(k:Int)]) (max top k) (Y0 m l k l.length cost) s
theorem walk20_succ (m:L2)(cs:List Con)(d:Nat)(l:L1)(top cost:Int)(s:S20):walk20 m cs (d+1) l top cost s=if MG cost s then s else loopN (top+2).toNat s (uG m cs d l top cost):=rfl
def TE (m:L2)(cs:List Con):S20:=walk20 m cs m.length [] (-1) 0 ⟨[], -1,0⟩
theorem auT {m:L2}(h:aI m=true)(l:L1)(k:Int)(n i:Nat):0<=sU m l k n i/\sU m l k n i<=1000:=by
 have:=bZ h i n;unfold sU;split
 ·omega
 ·split<;>omega
theorem as1 {m:L2}(h:aI m=true)(l:L1)(k:Int)(n:Nat)(c:Int)(j:Nat):c<=loopN j c (fun i s=>s+sU m l k n i)/\loopN j c (fun i s=>s+sU m l k n i)<=c+1000*j:=
 loopN_inv (fun j x=>c<=x/\x<=c+1000*j) (by omega) fun i x _ hx=>by have:=auT h l k n i;omega
theorem aCZ (d:Nat):1<=9^d:=Nat.one_le_pow _ _ (by omega)
structure W20 (d:Nat) (n:Nat) (s s':S20):Prop where
 lo:0<=s.count->0<=s'.count
 hi:0<=s.count->s'.count<=s.count+(9^d:Nat)
 best:s'.best=s.best\/s'.best.length=n
theorem ah2 {m:L2}{cs:List Con}:∀(d:Nat) (l:L1) (top cost:Int) (s:S20),top+2+d<=9->W20 d (l.length+d) s (walk20 m cs d l top cost s)
 |0,l,top,cost,s,_=>by
  unfold walk20;split
  ·exact⟨id,fun h=>by simp;omega,.inl rfl⟩
  ·unfold MS;split
   ·exact⟨fun _=>by simp,fun h=>by simp;omega,.inr rfl⟩
   ·exact⟨fun h=>by simp only;omega,fun h=>by simp,.inl rfl⟩
 |d+1,l,top,cost,s,ht=>by
  rw[walk20_succ];have hp:=aCZ d;split
  ·exact⟨id,fun h=>by omega,.inl rfl⟩
  ·have key:∀j≤(top+2).toNat,(0<=s.count->0<=(loopN j s (uG m cs d l top cost)).count/\(loopN j s (uG m cs d l top cost)).count<=s.count+((j*9^d:Nat):Int))/\((loopN j s (uG m cs d l top cost)).best=s.best\/(loopN j s (uG m cs d l top cost)).best.length=l.length+(d+1)):=by
    intro j hj
    induction j with
    |zero=>exact⟨fun h=>⟨h,by simp[loopN_zero]⟩,.inl rfl⟩
    |succ j ih=>
     obtain⟨i1,i2⟩:=ih (by omega);rw[aA];generalize loopN j s (uG m cs d l top cost)=x at i1 i2|-
     unfold uG;have hmul:(j+1)*9^d=j*9^d+9^d:=by rw[Nat.add_mul,Nat.one_mul]
     split
     ·exact⟨fun h=>⟨(i1 h).1,by have:=(i1 h).2;rw[hmul];omega⟩,i2⟩
     ·have h3:=ah2 (m:=m) (cs:=cs) d (l++[(j:Int)]) (max top j) (Y0 m l j l.length cost) x (by omega);refine⟨fun h=>⟨h3.lo (i1 h).1,by have:=h3.hi (i1 h).1;have:=(i1 h).2;rw[hmul];omega⟩,?_⟩;rcases h3.best with e|e
      ·rw[e];exact i2
      ·right;rw[e,List.length_append,List.length_singleton];omega
   obtain⟨k1,k2⟩:=key _ (Nat.le_refl _);have hm:(top+2).toNat*9^d<=9*9^d:=Nat.mul_le_mul_right _ (by omega);have hs:9^(d+1)=9*9^d:=by rw[Nat.pow_succ,Nat.mul_comm]
   exact⟨fun h=>(k1 h).1,fun h=>by have:=(k1 h).2;rw[hs];omega,k2⟩
def gW (cs:List Con)(l:L1):Bool:=cs.all (oN l)
def fV (m:L2)(cs:List Con)(l:L1)(s:S20):S20:=
 if gW cs l=true then(if s.cost<0\/aQ m l<s.cost then⟨l,aQ m l,1⟩else if aQ m l=s.cost then⟨s.best,s.cost,s.count+1⟩else s)else s
def jL (f:L1->S20->S20):Nat->L1->Nat->S20->S20
 |0,l,_,s=>f l s
 |d+1,l,nx,s=>loopN (nx+1) s fun x s=>jL f d (l++[(x:Int)]) (max nx (x+1)) s
def oU (m:L2)(cs:List Con):S20:=jL (fV m cs) m.length [] 0 ⟨[], -1,0⟩
def okP (cs:List Con)(l:L1):Prop:=∀c∈cs,c.b<l.length->decide (at1 l c.a.toNat=at1 l c.b.toNat)=c.same
theorem fG (l:L1)(k:Int)(i:Nat):at1 (l++[k]) i=if i<l.length then at1 l i else if i=l.length then k else 0:=by
 simp only[at1,List.getD_eq_getElem?_getD];by_cases h:i<l.length
 ·rw[List.getElem?_append_left h,if_pos h]
 ·rw[if_neg h];by_cases h2:i=l.length
  ·subst h2;simp
  ·rw[if_neg h2,List.getElem?_eq_none (by simp;omega)];rfl
variable {σ:Type}
section
variable {m:L2}{cs:List Con}
theorem YL {n:Int}(hc:aN n cs=true)(l:L1)(k:Int):okP cs (l++[k])↔okP cs l/\akK cs (l++[k])=false:=by
 have hn:=(fO hc).2.2.2;have hlen:(l++[k]).length=l.length+1:=by simp
 constructor
 ·intro h;refine⟨fun c hcs hb=> ?_,?_⟩
  ·have:=h c hcs (by rw[hlen];omega);have h2:=hn c hcs;rw[fG,fG,if_pos (by omega),if_pos (by omega)]at this;exact this
  ·rw[akK,List.any_eq_false];intro c hcs hb;simp only[Bool.and_eq_true,decide_eq_true_eq,bne_iff_ne,ne_eq]at hb;have h2:=hn c hcs;have:=h c hcs (by rw[hlen]at hb|-;omega);apply hb.2;rw[←this,hlen];have e:c.b.toNat=l.length:=by rw[hlen]at hb;omega
   rw[e];rfl
 ·rintro⟨h1,h2⟩ c hcs hb;have h3:=hn c hcs;by_cases hlt:c.b<l.length
  ·have:=h1 c hcs hlt;rw[fG,fG,if_pos (by omega),if_pos (by omega)];exact this
  ·rw[akK,List.any_eq_false]at h2;have h4:=h2 c hcs;rw[hlen]at hb h4;have e:c.b.toNat=l.length:=by omega
   simp only[Bool.and_eq_true,decide_eq_true_eq,bne_iff_ne,ne_eq,not_and,Classical.not_not]at h4;rw[e];exact h4 (by omega)
theorem R8 {n:Int}(hc:aN n cs=true)(hl:(l.length:Int)=n):gW cs l=true↔okP cs l:=by
 have hn:=(fO hc).2.2.2;rw[gW,List.all_eq_true];constructor
 ·intro h c hcs hb;have:=h c hcs;simp only[oN,Bool.and_eq_true,beq_iff_eq]at this;exact this.2
 ·intro h c hcs;have h2:=hn c hcs;have:=h c hcs (by omega);simp only[oN,Bool.and_eq_true,beq_iff_eq,decide_eq_true_eq];exact⟨⟨by omega,by omega⟩,this⟩
theorem ay3 {n:Int}(hc:aN n cs=true)(h:¬okP cs l)(k:Int):¬okP cs (l++[k]):=fun h2=>h ((YL hc l k).1 h2).1
theorem aaW {n:Int}(hc:aN n cs=true):∀(d:Nat) (l:L1) (nx:Nat) (s:S20),((l.length+d:Nat):Int)=n->¬okP cs l->jL (fV m cs) d l nx s=s
 |0,l,nx,s,hl,h=>by
  rw[jL,fV,if_neg];intro hk;exact h ((R8 hc (by simpa using hl)).1 hk)
 |d+1,l,nx,s,hl,h=>by
  rw[jL];refine loopN_inv (fun _ x=>x=s) rfl fun i x _ hx=> ?_;rw[hx];exact aaW hc d _ _ s (by simp only[List.length_append,List.length_singleton];omega) (ay3 hc h _)
theorem PO (hm:aI m=true)(i k:Nat):at2 m i k=at2 m k i:=by
 by_cases hi:i<m.length
 ·by_cases hk:k<m.length
  ·simp only[aI,Bool.and_eq_true,List.all_eq_true,List.mem_range]at hm;have:=hm.1.2 i hi k hk;simp only[yE,Bool.and_eq_true,decide_eq_true_eq]at this;exact this.1.2
  ·obtain⟨r,hr,hrl⟩:=uA hm hi;simp[at2,List.getD_eq_getElem?_getD,hr,List.getElem?_eq_none (show r.length<=k by omega),List.getElem?_eq_none (show m.length<=k by omega)]
 ·by_cases hk:k<m.length
  ·obtain⟨r,hr,hrl⟩:=uA hm hk;simp[at2,List.getD_eq_getElem?_getD,hr,List.getElem?_eq_none (show r.length<=i by omega),List.getElem?_eq_none (show m.length<=i by omega)]
  ·simp[at2,List.getD_eq_getElem?_getD,List.getElem?_eq_none (show m.length<=i by omega),List.getElem?_eq_none (show m.length<=k by omega)]
theorem nO {s:σ}{f g:Nat->σ->σ}(h:∀i x,i<n->f i x=g i x):loopN n s f=loopN n s g:=by
 have:∀k≤n,loopN k s f=loopN k s g:=by
  intro k hk
  induction k with
  |zero=>rfl
  |succ k ih=>rw[aA,aA,ih (by omega),h _ _ (by omega)]
 exact this n (Nat.le_refl n)
theorem KH (hm:aI m=true)(l:L1)(k:Int):aQ m (l++[k])=Y0 m l k l.length (aQ m l):=by
 unfold aQ;rw[List.length_append,List.length_singleton,aA]
 have h1:loopN l.length 0 (qF m (l++[k]))=loopN l.length 0 (qF m l):=nO fun i x hi=>by
  unfold qF;refine nO fun j y hj=> ?_
  have:lF m (l++[k]) i j=lF m l i j:=by
   have e1:at1 (l++[k]) i=at1 l i:=by rw[fG,if_pos hi]
   have e2:at1 (l++[k]) j=at1 l j:=by rw[fG,if_pos (by omega)]
   unfold lF;rw[e1,e2]
  rw[this]
 rw[h1];unfold qF Y0;refine nO fun j y hj=> ?_;congr 1;have e1:at1 (l++[k]) l.length=k:=by rw[fG,if_neg (by omega),if_pos rfl]
 have e2:at1 (l++[k]) j=at1 l j:=by rw[fG,if_pos hj]
 unfold lF sU;rw[e1,e2,PO hm l.length j];by_cases e:at1 l j=k
 ·simp[e]
 ·have e2:¬k=at1 l j:=fun h=>e h.symm;simp[e,e2]
theorem Z9 (hm:aI m=true)(l:L1)(k:Int):aQ m l<=aQ m (l++[k]):=by
 rw[KH hm];exact(as1 hm l k l.length (aQ m l) l.length).1
theorem YX (hm:aI m=true):∀(d:Nat) (l:L1) (nx:Nat) (s:S20),MG (aQ m l) s->jL (fV m cs) d l nx s=s
 |0,l,nx,s,h=>by
  unfold MG at h;rw[jL,fV];split
  ·rw[if_neg (by omega),if_neg (by omega)]
  ·rfl
 |d+1,l,nx,s,h=>by
  unfold MG at h;rw[jL];refine loopN_inv (fun _ x=>x=s) rfl fun i x _ hx=> ?_;rw[hx];refine YX hm d _ _ s ?_;have:=Z9 hm l (i:Int);unfold MG;omega
theorem aa0 (hm:aI m=true)(hc:aN m.length cs=true):∀(d:Nat) (l:L1) (top:Int) (s:S20),l.length+d=m.length-> -1<=top->okP cs l->walk20 m cs d l top (aQ m l) s=jL (fV m cs) d l (top+1).toNat s
 |0,l,top,s,hl,ht,ho=>by
  have hk:=(R8 hc (l:=l) (by omega)).2 ho;rw[walk20,jL,fV,if_pos hk];split
  ·rename_i h;unfold MG at h;rw[if_neg (by omega),if_neg (by omega)]
  ·rename_i h;unfold MG at h;unfold MS;split
   ·rfl
   ·rw[if_pos (by omega)]
 |d+1,l,top,s,hl,ht,ho=>by
  rw[walk20_succ];split
  ·rename_i h;rw[YX hm _ _ _ _ h]
  ·rw[jL,show(top+2).toNat=(top+1).toNat+1 by omega];refine nO fun i x hi=> ?_;unfold uG;have hlen:(l++[(i:Int)]).length=l.length+1:=by simp
   split
   ·rename_i hb;rw[aaW hc d _ _ x (by rw[hlen];omega)];intro h2;have:=((YL hc l i).1 h2).2;rw[hb]at this;cases this
   ·rename_i hb;have hok:=(YL hc l i).2 ⟨ho,by simpa using hb⟩;rw[←KH hm,aa0 hm hc d _ _ x (by rw[hlen];omega) (by omega) hok];congr 1;omega
theorem QQ (hm:aI m=true)(hc:aN m.length cs=true):TE m cs=oU m cs:=
 aa0 hm hc m.length [] (-1) _ (by simp) (by omega) (fun c hcs hb=>by have:=(fO hc).2.2.2 c hcs;simp at hb;omega)
theorem O8 {nx:Nat}(hl:RG l)(hnx:∀v:Int,0<=v->v<nx->∃j<l.length,at1 l j=v){x:Nat}(hx:x<=nx):RG (l++[(x:Int)]):=by
 intro k hk;simp only[List.length_append,List.length_singleton]at hk;by_cases hkl:k<l.length
 ·rw[fG,if_pos hkl];refine⟨(hl k hkl).1,fun v h1 h2=> ?_⟩;obtain⟨j,hj,e⟩:=(hl k hkl).2 v h1 h2;exact⟨j,hj,by rw[fG,if_pos (by omega),e]⟩
 ·obtain rfl:k=l.length:=by omega
  rw[fG,if_neg (by omega),if_pos rfl];refine⟨by omega,fun v h1 h2=> ?_⟩;obtain⟨j,hj,e⟩:=hnx v h1 (by omega);exact⟨j,hj,by rw[fG,if_pos hj,e]⟩
theorem adP {nx:Nat}(hnx:∀v:Int,0<=v->v<nx->∃j<l.length,at1 l j=v){x:Nat}(hx:x<=nx):∀v:Int,0<=v->v<(max nx (x+1):Nat)->∃j<(l++[(x:Int)]).length,at1 (l++[(x:Int)]) j=v:=by
 intro v h1 h2;by_cases hv:v<nx
 ·obtain⟨j,hj,e⟩:=hnx v h1 hv;exact⟨j,by simp;omega,by rw[fG,if_pos hj,e]⟩
 ·exact⟨l.length,by simp,by rw[fG,if_neg (by omega),if_pos rfl];omega⟩
def Found (n:Nat)(s:S20):Prop:= -1<=s.cost/\(0<=s.cost->RG s.best/\s.best.length=n)
theorem eB (hm:aI m=true)(l:L1):0<=aQ m l:=by
 refine loopN_inv (fun _ x=>0<=x) (by omega) fun i x _ hx=> ?_;refine loopN_inv (fun _ y=>0<=y) hx fun k y _ hy=> ?_;have:=bZ hm i k;unfold lF;split
 ·omega
 ·split<;>omega
theorem G7 (hm:aI m=true):∀(d:Nat) (l:L1) (nx:Nat) (s:S20),RG l->(∀v:Int,0<=v->v<nx->∃j<l.length,at1 l j=v)->Found (l.length+d) s->Found (l.length+d) (jL (fV m cs) d l nx s)/\(0<=s.cost->0<=(jL (fV m cs) d l nx s).cost)
 |0,l,nx,s,hl,hnx,hs=>by
  have hp:=eB hm l;rw[jL,fV];split
  ·split
   ·exact⟨⟨by simp only;omega,fun _=>⟨hl,rfl⟩⟩,fun _=>hp⟩
   ·split
    ·exact⟨⟨hs.1,hs.2⟩,fun h=>h⟩
    ·exact⟨hs,fun h=>h⟩
  ·exact⟨hs,fun h=>h⟩
 |d+1,l,nx,s,hl,hnx,hs=>by
  rw[jL];refine loopN_inv (fun _ x=>Found (l.length+(d+1)) x/\(0<=s.cost->0<=x.cost)) ⟨hs,fun h=>h⟩ fun i x hi ⟨h1,h2⟩=> ?_;have hlen:(l++[(i:Int)]).length+d=l.length+(d+1):=by simp;omega
  have h3:=G7 hm d (l++[(i:Int)]) (max nx (i+1)) x (O8 hl hnx (by omega)) (adP hnx (by omega)) (by rw[hlen];exact h1);rw[hlen]at h3;exact⟨h3.1,fun h=>h3.2 (h2 h)⟩
theorem SX (hm:aI m=true):∀(d:Nat) (l e:L1) (nx:Nat) (s:S20),RG (l++e)->e.length=d->(∀v:Int,0<=v->v<nx->∃j<l.length,at1 l j=v)->(∀j<l.length,at1 l j<nx)->RG l->Found (l.length+d) s->gW cs (l++e)=true->0<=(jL (fV m cs) d l nx s).cost
 |0,l,e,nx,s,hr,he,hnx,hlt,hl,hs,hk=>by
  obtain rfl:e=[]:=List.eq_nil_of_length_eq_zero he;rw[List.append_nil]at hk;have hp:=eB hm l;rw[jL,fV,if_pos hk];split
  ·exact hp
  ·split
   ·simp only;omega
   ·omega
 |d+1,l,e,nx,s,hr,he,hnx,hlt,hl,hs,hk=>by
  cases e with
  |nil=>simp at he
  |cons x e=>
   have hlx:at1 (l++x::e) l.length=x:=by simp[at1,List.getD_eq_getElem?_getD]
   have hx:=hr l.length (by simp);rw[hlx]at hx
   have hxn:x<=nx:=by
    rcases Int.lt_or_le (nx:Int) x with hlt2|hle
    ·obtain⟨j,hj,ej⟩:=hx.2 nx (by omega) hlt2;have e2:at1 (l++x::e) j=at1 l j:=by simp[at1,List.getD_eq_getElem?_getD,List.getElem?_append_left hj]
     rw[e2]at ej;have:=hlt j hj;omega
    ·exact hle
   obtain⟨x,rfl⟩:∃k:Nat,x=k:=⟨x.toNat,by omega⟩;rw[jL]
   have key:∀j≤nx+1,Found (l.length+(d+1)) (loopN j s fun x s=>jL (fV m cs) d (l++[(x:Int)]) (max nx (x+1)) s)/\(x<j->0<=(loopN j s fun x s=>jL (fV m cs) d (l++[(x:Int)]) (max nx (x+1)) s).cost):=by
    intro j hj
    induction j with
    |zero=>exact⟨hs,by omega⟩
    |succ j ih=>
     obtain⟨i1,i2⟩:=ih (by omega);rw[aA];generalize(loopN j s fun x s=>jL (fV m cs) d (l++[(x:Int)]) (max nx (x+1)) s)=y at i1 i2|-
     have hlen:(l++[(j:Int)]).length+d=l.length+(d+1):=by simp;omega
     have h3:=G7 (cs:=cs) hm d (l++[(j:Int)]) (max nx (j+1)) y (O8 hl hnx (by omega)) (adP hnx (by omega)) (by rw[hlen];exact i1);rw[hlen]at h3;refine⟨h3.1,fun hlt2=> ?_⟩;by_cases hjx:j=x
     ·subst hjx;refine SX hm d (l++[(j:Int)]) e (max nx (j+1)) y (by simpa using hr) (by simpa using he) (adP hnx (by omega)) (fun i hi=> ?_) (O8 hl hnx (by omega)) (by rw[hlen];exact i1) (by simpa using hk);rw[fG];simp only[List.length_append,List.length_singleton]at hi;split
      ·have:=hlt i (by omega);omega
      ·split<;>omega
     ·exact h3.2 (i2 (by omega))
   exact(key (nx+1) (Nat.le_refl _)).2 (by omega)
theorem ajQ:RG []:=fun k hk=>by simp at hk
theorem ac5 (hm:aI m=true):Found m.length (oU m cs):=by
 have:=(G7 (cs:=cs) hm m.length [] 0 ⟨[], -1,0⟩ ajQ (fun v h1 h2=>by omega) ⟨by simp,fun h=>by simp at h⟩).1;simpa[oU]using this
theorem adW (hm:aI m=true){L:L1}(hL:RG L)(hl:L.length=m.length)(hk:gW cs L=true):0<=(oU m cs).cost:=
 SX hm m.length [] L 0 _ (by simpa using hL) hl (fun v h1 h2=>by omega) (fun j hj=>by simp at hj) ajQ ⟨by simp,fun h=>by simp at h⟩ (by simpa using hk)
end
theorem XX (h:sqB n M){a b:Nat}(hi:i<n)(hk:k<n)(v:Bool):atB (KA M i k v) a b=if a=i/\b=k then v else atB M a b:=by
 obtain⟨r,hr,hrl,hrk⟩:=OB h hi hk;rw[QR hr];simp only[atB,List.getD_eq_getElem?_getD,List.getElem?_set];by_cases ha:i=a
 ·subst ha;rw[if_pos rfl,if_pos (by rw[h.1];exact hi)];simp only[Option.getD_some,List.getElem?_set];by_cases hb:k=b
  ·subst hb;rw[if_pos rfl,if_pos (by omega)];simp
  ·rw[if_neg hb,if_neg (fun e=>hb e.2.symm)];simp[hr]
 ·rw[if_neg ha,if_neg (fun e=>ha e.1.symm)]
theorem aqX (n a b:Nat):atB (noLinks n) a b=false:=by
 simp only[atB,noLinks,List.getD_eq_getElem?_getD,List.getElem?_replicate];split
 ·simp[List.getElem?_replicate];split<;>rfl
 ·simp
def EE (c:Con)(a b:Nat):Prop:=c.same=true/\((c.a=a/\c.b=b)\/(c.a=b/\c.b=a))
theorem eU :∀(cs:List Con),(∀c∈cs,0<=c.a/\c.a<c.b/\c.b<n)->sqB n (gY n cs)/\∀a b,atB (gY n cs) a b=true↔∃c∈cs,EE c a b:=by
 have key:∀(cs:List Con) (M:List (List Bool)),(∀c∈cs,0<=c.a/\c.a<c.b/\c.b<n)->sqB n M->sqB n (cs.foldl mustStep M)/\∀a b,atB (cs.foldl mustStep M) a b=true↔atB M a b=true\/∃c∈cs,EE c a b:=by
  intro cs
  induction cs with
  |nil=>intro M _ h;exact⟨h,fun a b=>by simp⟩
  |cons c cs ih=>
   intro M hc h;have h1:=hc c (by simp)
   have hsq:sqB n (mustStep M c):=by
    unfold mustStep;split
    ·exact sqB_set (sqB_set h)
    ·exact h
   obtain⟨g1,g2⟩:=ih (mustStep M c) (fun c hcs=>hc c (List.mem_cons_of_mem _ hcs)) hsq;refine⟨g1,fun a b=> ?_⟩;rw[List.foldl_cons,g2]
   have hst:atB (mustStep M c) a b=true↔atB M a b=true\/EE c a b:=by
    unfold mustStep EE;split
    ·rename_i hs;rw[XX (sqB_set h) (by omega) (by omega),XX h (by omega) (by omega)];simp only[hs,true_and];by_cases e1:a=c.b.toNat/\b=c.a.toNat
     ·rw[if_pos e1];simp;right;right;omega
     ·rw[if_neg e1];by_cases e2:a=c.a.toNat/\b=c.b.toNat
      ·rw[if_pos e2];simp;right;left;omega
      ·rw[if_neg e2];constructor
       ·exact .inl
       ·rintro(h|h|h)
        ·exact h
        ·exact absurd ⟨by omega,by omega⟩ e2
        ·exact absurd ⟨by omega,by omega⟩ e1
    ·rename_i hs;simp[hs]
   rw[hst];simp only[List.mem_cons,exists_eq_or_imp,or_assoc]
 intro cs hc;obtain⟨h1,h2⟩:=key cs (noLinks n) hc (WN n);refine⟨h1,fun a b=>(h2 a b).trans ?_⟩;simp[aqX]
theorem LD {c:Con}{a b:Nat}(h:EE c a b):EE c b a:=⟨h.1,by rcases h.2 with h|h;(exact .inr h);exact .inl h⟩
theorem ap8 {cs:List Con}(hc:∀c∈cs,0<=c.a/\c.a<c.b/\c.b<n):afX n (gY n cs):=fun a b _ _ h=>by
 obtain⟨c,h1,h2⟩:=((eU cs hc).2 a b).1 h;exact((eU cs hc).2 b a).2 ⟨c,h1,LD h2⟩
theorem lV {cs:List Con}(h:aN n cs=true):∀c∈cs,0<=c.a/\c.a<c.b/\c.b<(n:Int):=(fO h).2.2.2
theorem iC {cs:List Con}(h:aN n cs=true):vS n (gY n cs) (aV n cs):=V6 (ap8 (lV h))
theorem cZ {cs:List Con}:aX n cs=true↔aN n cs=true/\∀c∈cs,c.same=false->¬Reach n (gY n cs) c.a.toNat c.b.toNat:=by
 unfold aX nL;rw[Bool.and_eq_true,decide_eq_true_eq];constructor
 ·rintro⟨h1,h2⟩;refine⟨h1,fun c hc hs hr=> ?_⟩;rw[if_pos h1]at h2;have hb:=lV h1 c hc;have h3:¬0<=ix (yC (aV n cs)) cs:=by omega
  rw[dK]at h3;apply h3;rw[List.any_eq_true];refine⟨c,hc,?_⟩;have:=((iC h1).2.2 c.a.toNat c.b.toNat (by omega) (by omega)).2 hr;simp[yC,hs,this]
 ·rintro⟨h1,h2⟩;refine⟨h1,?_⟩;rw[if_pos h1]
  have h3:¬0<=ix (yC (aV n cs)) cs:=by
   rw[dK,List.any_eq_true];rintro⟨c,hc,hb⟩;simp only[yC,Bool.and_eq_true,Bool.not_eq_true',decide_eq_true_eq]at hb;have hb2:=lV h1 c hc;exact h2 c hc hb.1 (((iC h1).2.2 c.a.toNat c.b.toNat (by omega) (by omega)).1 hb.2)
  omega
theorem KM {cs:List Con}(h:aX n cs=true):gW cs (aV n cs)=true:=by
 obtain⟨h1,h2⟩:=cZ.1 h;have hL:=iC h1;rw[R8 h1 (by rw[hL.1])];intro c hc hb;have hb2:=lV h1 c hc;have hi:=hL.2.2 c.a.toNat c.b.toNat (by omega) (by omega);cases hs:c.same with
 |true=>
  rw[decide_eq_true_eq,hi];exact .step (.refl _) (by omega) (by omega) (((eU cs (lV h1)).2 _ _).2 ⟨c,hc,hs,.inl ⟨by omega,by omega⟩⟩)
 |false=>
  rw[decide_eq_false_iff_not,hi];exact h2 c hc hs
theorem axQ {m:L2}{cs:List Con}(hm:aI m=true)(h:aX m.length cs=true):0<=(oU m cs).cost/\RG (oU m cs).best/\(oU m cs).best.length=m.length:=by
 have hL:=iC (cZ.1 h).1;have h1:=adW (cs:=cs) hm hL.2.1 hL.1 (KM h);exact⟨h1,(ac5 hm).2 h1⟩
variable {a b:List Con}
theorem rQ {n:Int}(h:a.Perm b):aN n a=aN n b:=by
 have h1:a.all (EU n)=b.all (EU n):=h.all_eq;unfold aN;rw[h1,h.length_eq]
theorem QC (ha:aN n a=true)(hb:aN n b=true)(h:∀c,c∈a↔c∈b):aV n a=aV n b:=by
 have hla:=iC ha;have hlb:=iC hb
 have hm:∀x y,atB (gY n a) x y=true↔atB (gY n b) x y=true:=fun x y=>by
  rw[(eU a (lV ha)).2,(eU b (lV hb)).2];simp only[h]
 refine RG.unique (by rw[hla.1,hlb.1]) hla.2.1 hlb.2.1 fun i k hi hk=> ?_;rw[hla.1]at hi hk;rw[hla.2.2 i k hi hk,hlb.2.2 i k hi hk];exact⟨fun hr=>hr.mono fun x y _ _ e=>(hm x y).1 e,fun hr=>hr.mono fun x y _ _ e=>(hm x y).2 e⟩
theorem EM (h:a.Perm b):aX n a=aX n b:=by
 rw[Bool.eq_iff_iff,cZ,cZ,rQ h];refine and_congr_right fun hb=> ?_;have ha:aN n a=true:=by rw[rQ h];exact hb
 have hm:∀x y,atB (gY n a) x y=true↔atB (gY n b) x y=true:=fun x y=>by
  rw[(eU a (lV ha)).2,(eU b (lV hb)).2];simp only[h.mem_iff]
 have hr:∀x y,Reach n (gY n a) x y↔Reach n (gY n b) x y:=fun x y=>⟨fun hr=>hr.mono fun x y _ _ e=>(hm x y).1 e,fun hr=>hr.mono fun x y _ _ e=>(hm x y).2 e⟩;simp only[h.mem_iff,hr]
theorem ahQ (h:a.Perm b)(l:L1):gW a l=gW b l:=h.all_eq
theorem ai9 {m:L2}(h:a.Perm b):fV m a=fV m b:=by
 funext l s;unfold fV;rw[ahQ h]
theorem ahH {m:L2}(h:a.Perm b):oU m a=oU m b:=by
 unfold oU;rw[ai9 h]
theorem acZ (h:a.Perm b)(items:L1):(bX a items).Perm (bX b items):=h.filterMap _
theorem afQ {n:Nat}(f:Nat->Nat->Bool):let L:=loopN n (noLinks n) fun i M=>loopN n M fun k M=>KA M i k (f i k);sqB n L/\∀a b,a<n->b<n->atB L a b=f a b:=by
 have key:∀i≤n,sqB n (loopN i (noLinks n) fun i M=>loopN n M fun k M=>KA M i k (f i k))/\∀a b,a<n->b<n->atB (loopN i (noLinks n) fun i M=>loopN n M fun k M=>KA M i k (f i k)) a b=if a<i then f a b else false:=by
  intro i hi
  induction i with
  |zero=>exact⟨WN n,fun a b _ _=>by rw[loopN_zero,aqX];simp⟩
  |succ i ih=>
   obtain⟨h1,h2⟩:=ih (by omega);rw[aA];generalize(loopN i (noLinks n) fun i M=>loopN n M fun k M=>KA M i k (f i k))=M at h1 h2|-
   have row:∀k≤n,sqB n (loopN k M fun k M=>KA M i k (f i k))/\∀a b,a<n->b<n->atB (loopN k M fun k M=>KA M i k (f i k)) a b=if a=i/\b<k then f a b else if a<i then f a b else false:=by
    intro k hk
    induction k with
    |zero=>exact⟨h1,fun a b ha hb=>by rw[loopN_zero,h2 a b ha hb,if_neg (c:=a=i/\b<0) (by omega)]⟩
    |succ k ih2=>
     obtain⟨g1,g2⟩:=ih2 (by omega);rw[aA];refine⟨sqB_set g1,fun a b ha hb=> ?_⟩;rw[XX g1 (by omega) (by omega)];by_cases e:a=i/\b=k
     ·obtain⟨rfl,rfl⟩:=e;rw[if_pos ⟨rfl,rfl⟩,if_pos ⟨rfl,by omega⟩]
     ·rw[if_neg e,g2 a b ha hb];by_cases e2:a=i/\b<k
      ·rw[if_pos e2,if_pos ⟨e2.1,by omega⟩]
      ·rw[if_neg e2,if_neg (c:=a=i/\b<k+1) (by omega)]
   obtain⟨g1,g2⟩:=row n (Nat.le_refl n);refine⟨g1,fun a b ha hb=> ?_⟩;rw[g2 a b ha hb];by_cases e:a=i
   ·subst e;rw[if_pos ⟨rfl,hb⟩,if_pos (by omega)]
   ·rw[if_neg (fun e2=>e e2.1)];by_cases e2:a<i
    ·rw[if_pos e2,if_pos (by omega)]
    ·rw[if_neg e2,if_neg (by omega)]
 obtain⟨h1,h2⟩:=key n (Nat.le_refl n);exact⟨h1,fun a b ha hb=>by rw[h2 a b ha hb,if_pos ha]⟩
theorem lY (m:L2):∀a b,a<m.length->b<m.length->atB (NS m) a b=decide (at2 m a b>0):=(afQ fun i k=>decide (at2 m i k>0)).2
theorem zU (p q:L1):∀a b,a<p.length->b<p.length->atB (JW p q) a b=(decide (at1 p a=at1 p b)||decide (at1 q a=at1 q b)):=(afQ fun i k=>decide (at1 p i=at1 p k)||decide (at1 q i=at1 q k)).2
theorem CS {m:L2}(hm:aI m=true):vS m.length (NS m) (jB m):=V6 fun a b ha hb h=>by
 rw[lY m a b ha hb]at h;rw[lY m b a hb ha,PO hm b a];exact h
theorem TL (p q:L1):vS p.length (JW p q) (vB p q):=V6 fun a b ha hb h=>by
 rw[zU p q a b ha hb]at h;rw[zU p q b a hb ha];simp only[Bool.or_eq_true,decide_eq_true_eq]at h|-
 rcases h with h|h
 ·exact .inl h.symm
 ·exact .inr h.symm
theorem ax4 {m:L2}(hm:aI m=true):(VW m.length m).1=jB m:=
 asD (fun a b ha hb=>by rw[lY m a b ha hb];simp) fun a b ha hb h=>by
  rw[lY m a b ha hb]at h;rw[lY m b a hb ha,PO hm b a];exact h
theorem WQ {l':L1}(h:vS n M l)(h':vS n M' l')(hm:∀a b,a<n->b<n->a≠b->(atB M a b=true↔atB M' a b=true)):l=l':=by
 have hr:∀{M M':List (List Bool)},(∀a b,a<n->b<n->a≠b->(atB M a b=true->atB M' a b=true))->∀i k,Reach n M i k->Reach n M' i k:=by
  intro M M' hm i k hr
  induction hr with
  |refl=>exact .refl _
  | @step a b _ ha hb h ih=>
   by_cases hab:a=b
   ·subst hab;exact ih
   ·exact .step ih ha hb (hm a b ha hb hab h)
 refine RG.unique (by rw[h.1,h'.1]) h.2.1 h'.2.1 fun i k hi hk=> ?_;rw[h.1]at hi hk;rw[h.2.2 i k hi hk,h'.2.2 i k hi hk];exact⟨hr (fun a b ha hb hab=>(hm a b ha hb hab).1) i k,hr (fun a b ha hb hab=>(hm a b ha hb hab).2) i k⟩
theorem BL (h:vS n M l)(h1:1<=n)(h8:n<=8):bM l=true:=isPart_iff.2 ⟨h.2.1,by rw[h.1];omega⟩
variable {X:L2}
theorem as0 {cs:List Con}(hc:aN n cs=true)(hX:aI X=true)(hl:X.length=n)(h:∀a b,a<n->b<n->(0<at2 X a b↔∃c∈cs,EE c a b)):jB X=aV n cs:=by
 have h1:=CS hX;rw[hl]at h1;refine WQ h1 (iC hc) fun a b ha hb _=> ?_;rw[lY X a b (by omega) (by omega),decide_eq_true_eq,(eU cs (lV hc)).2];exact h a b ha hb
variable {q:L1}
theorem auD {p:L1}(hX:aI X=true)(hl:X.length=p.length)(h:∀a b,a<p.length->b<p.length->a≠b->(0<at2 X a b↔at1 p a=at1 p b\/at1 q a=at1 q b)):jB X=vB p q:=by
 have h1:=CS hX;rw[hl]at h1;refine WQ h1 (TL p q) fun a b ha hb hab=> ?_;rw[lY X a b (by omega) (by omega),decide_eq_true_eq,zU p q a b ha hb,Bool.or_eq_true,decide_eq_true_eq,decide_eq_true_eq];exact h a b ha hb hab
theorem yR {m:L2}{cs:List Con}(hm:aI m=true)(hc:aN m.length cs=true):aO m cs=vB (jB m) (aV m.length cs)/\bM (aO m cs)=true/\(aO m cs).length=m.length:=by
 have hml:=aP hm;have h1:=CS hm;have h2:=iC hc
 have hp:fJ (jB m) (aV m.length cs)=true:=by
  simp only[fJ,Bool.and_eq_true,decide_eq_true_eq];exact⟨⟨BL h1 hml.1 hml.2,BL h2 hml.1 hml.2⟩,by rw[h1.1,h2.1]⟩
 have e:aO m cs=vB (jB m) (aV m.length cs):=by
  rw[aO,if_pos ⟨hm,hc⟩,ah9,if_pos hp]
 have h3:=TL (jB m) (aV m.length cs);rw[h1.1]at h3;rw[e];exact⟨rfl,BL h3 hml.1 hml.2,h3.1⟩
theorem JE (hr:RG l){v:Nat}(hv:v<(blocksP l).length):FL l.length (gat (blocksP l) v)/\1<=(gat (blocksP l) v).length/\(gat (blocksP l) v).length<=l.length:=by
 have hI:=blocksI hr (Nat.le_refl l.length);have hrow:=hI.row v hv;have e:gat (blocksP l) v=((List.range l.length).filter fun j=>decide (at1 l j=v)).map fun j:Nat=>(j:Int):=hrow;rw[e];refine⟨⟨fun x hx=> ?_,?_⟩,?_,?_⟩
 ·obtain⟨j,hj,rfl⟩:=List.mem_map.1 hx;have:=List.mem_range.1 (List.mem_filter.1 hj).1;omega
 ·rw[List.pairwise_map];refine List.Pairwise.filter _ (List.pairwise_lt_range.imp fun h=>by omega)
 ·obtain⟨j,hj,e2⟩:=hI.ex v (by omega) (by have:(blocksP l).length=(loopN l.length [] (iV l)).length:=rfl;omega);have hm:((j:Nat):Int)∈((List.range l.length).filter fun j=>decide (at1 l j=v)).map fun j:Nat=>(j:Int):=List.mem_map.2 ⟨j,List.mem_filter.2 ⟨List.mem_range.2 hj,by simpa using e2⟩,rfl⟩;exact List.length_pos_of_mem hm
 ·rw[List.length_map];have:=List.length_filter_le (fun j=>decide (at1 l j=(v:Int))) (List.range l.length);simpa using this
variable {items:L1}
theorem ac7 {m:L2}(hi:i<items.length)(hk:k<items.length):at2 (dZ m items) i k=at2 m (at1 items i).toNat (at1 items k).toNat:=by
 have h1:=aD hi;have h2:=aD hk;refine GG (r:=items.map fun y=>at2 m (at1 items i).toNat y.toNat) ?_ ?_
 ·simp[dZ,h1]
 ·simp[h2]
theorem ap6 {m:L2}(hm:aI m=true)(hl:1<=items.length/\items.length<=8)(hs:items.Pairwise (·<·)):aI (dZ m items)=true:=by
 have hlen:(dZ m items).length=items.length:=by simp[dZ]
 simp only[aI,Bool.and_eq_true,List.all_eq_true,List.mem_range,decide_eq_true_eq];refine⟨⟨fun r hr=> ?_,fun i hi k hk=> ?_⟩,by rw[hlen];omega⟩
 ·obtain⟨x,_,rfl⟩:=List.mem_map.1 hr;simp[hlen]
 ·rw[hlen]at hi hk;simp only[yE,Bool.and_eq_true,decide_eq_true_eq,Bool.or_eq_true];rw[ac7 hi hk,ac7 hk hi];have h1:=bZ hm (at1 items i).toNat (at1 items k).toNat;refine⟨⟨h1,PO hm _ _⟩,?_⟩;by_cases e:i=k
  ·subst e;right;by_cases hx:(at1 items i).toNat<m.length
   ·simp only[aI,Bool.and_eq_true,List.all_eq_true,List.mem_range]at hm;have:=hm.1.2 _ hx _ hx;simp only[yE,Bool.and_eq_true,decide_eq_true_eq,Bool.or_eq_true]at this;rcases this.2 with h|h
    ·exact absurd rfl h
    ·exact h
   ·simp[at2,List.getD_eq_getElem?_getD,List.getElem?_eq_none (show m.length<=(at1 items i).toNat by omega)]
  ·exact .inl e
theorem uI {x:Int}(h:0<=place items x):(place items x).toNat<items.length/\at1 items (place items x).toNat=x:=by
 unfold place ix at h|-
 cases hf:items.findIdx? (fun y=>decide (y=x))with
 |none=>rw[hf]at h;simp at h
 |some i=>
  simp only;obtain⟨hi,he,_⟩:=List.findIdx?_eq_some_iff_getElem.1 hf;have h1:=aD hi;rw[List.getElem?_eq_getElem hi]at h1;have:=Option.some.inj h1;exact⟨by omega,by rw[show((i:Int)).toNat=i by omega,←this];simpa using he⟩
theorem avX {cs:List Con}(hc:aN n cs=true)(hs:FL n items)(hl:1<=items.length/\items.length<=8):aN items.length (bX cs items)=true:=by
 have h1:=fO hc;simp only[aN,Bool.and_eq_true,List.all_eq_true,decide_eq_true_eq];refine⟨⟨fun c hcs=> ?_,by omega⟩,?_⟩
 ·obtain⟨c0,h2,h3⟩:=List.mem_filterMap.1 hcs;unfold qK at h3;split at h3
  ·rename_i hp;obtain rfl:=Option.some.inj h3;obtain⟨a1,a2⟩:=uI hp.1;obtain⟨b1,b2⟩:=uI hp.2;have h4:=h1.2.2.2 c0 h2;simp only[EU,Bool.and_eq_true,decide_eq_true_eq];refine⟨⟨by omega,by omega⟩,?_⟩;rcases Nat.lt_trichotomy (place items c0.a).toNat (place items c0.b).toNat with h|h|h
   ·omega
   ·rw[h]at a2;omega
   ·have:=List.pairwise_iff_getElem.1 hs.2 _ _ b1 a1 h;have e1:=aD a1;have e2:=aD b1;rw[List.getElem?_eq_getElem a1]at e1;rw[List.getElem?_eq_getElem b1]at e2;rw[Option.some.inj e1,Option.some.inj e2]at this;omega
  ·cases h3
 ·have:=List.length_filterMap_le (qK items) cs;unfold bX;omega
theorem ZB {cs:List Con}(hc:aX n cs=true)(hs:FL n items)(hl:1<=items.length/\items.length<=8):aX items.length (bX cs items)=true:=by
 obtain⟨h1,h2⟩:=cZ.1 hc;have h3:=avX h1 hs hl
 have hat:∀i<items.length,(at1 items i).toNat<n:=fun i hi=>by
  have:=hs.1 _ (List.mem_of_getElem? (aD hi));omega
 refine cZ.2 ⟨h3,fun c hcs hsame hr=> ?_⟩
 have key:∀i k,i<items.length->Reach items.length (gY items.length (bX cs items)) i k->Reach n (gY n cs) (at1 items i).toNat (at1 items k).toNat:=by
  intro i k hi hr
  induction hr with
  |refl=>exact .refl _
  | @step a b _ ha hb h ih=>
   refine .step ih (hat a ha) (hat b hb) ?_;rw[(eU _ (lV h3)).2]at h;obtain⟨c,hc1,hc2,hc3⟩:=h;obtain⟨c0,g1,g2⟩:=List.mem_filterMap.1 hc1;unfold qK at g2;split at g2
   ·rename_i hp;obtain rfl:=Option.some.inj g2;simp only at hc2 hc3;obtain⟨a1,a2⟩:=uI hp.1;obtain⟨b1,b2⟩:=uI hp.2;have hc0:=lV h1 c0 g1;rw[(eU _ (lV h1)).2];refine⟨c0,g1,hc2,?_⟩;rcases hc3 with⟨e1,e2⟩|⟨e1,e2⟩
    ·left;have ea:(place items c0.a).toNat=a:=by omega
     have eb:(place items c0.b).toNat=b:=by omega
     rw[ea]at a2;rw[eb]at b2;omega
    ·right;have ea:(place items c0.a).toNat=b:=by omega
     have eb:(place items c0.b).toNat=a:=by omega
     rw[ea]at a2;rw[eb]at b2;omega
   ·cases g2
 obtain⟨c0,g1,g2⟩:=List.mem_filterMap.1 hcs;unfold qK at g2;split at g2
 ·rename_i hp;obtain rfl:=Option.some.inj g2;simp only at hsame hr;obtain⟨a1,a2⟩:=uI hp.1;obtain⟨b1,b2⟩:=uI hp.2;have:=key _ _ a1 hr;rw[a2,b2]at this;exact h2 c0 g1 hsame this
 ·cases g2
def xG (n:Int)(l:L1):Bool:=l.all (fun x=>inR x 0 (n-1))&&decide l.Nodup&&inR n 1 8&&decide ((l.length:Int)=n)
def anP (n:Int)(l:L1)(i s:Nat):Prop:=(0<i->n<=8)/\s<256/\(∀x∈l.take i,0<=x/\x<n)/\(l.take i).Nodup/\∀x<8,s.testBit x=decide ((x:Int)∈l.take i)
theorem apB (n:Int)(l:L1):anP n l 0 0:=⟨by omega,by omega,by simp,by simp,fun x _=>by simp⟩
theorem OO (h:i<l.length):l.take (i+1)=l.take i++[at1 l i]:=aU (aD h)
theorem YK {x:Int}:(l++[x]).Nodup↔l.Nodup/\x∉l:=by
 rw[List.nodup_append];constructor
 ·rintro⟨h1,_,h2⟩;exact⟨h1,fun h=>h2 x h x (by simp) rfl⟩
 ·rintro⟨h1,h2⟩;refine⟨h1,by simp,fun a ha b hb=> ?_⟩;rw[List.mem_singleton.1 hb];rintro rfl;exact h2 ha
theorem YP {n:Int}{s:Nat}(h:anP n l i s)(hi:i<l.length)(hb:(at1 l i<0\/n<=at1 l i)\/8<n\/s.testBit (at1 l i).toNat=true):xG n l=false:=by
 rw[Bool.eq_false_iff];intro ho;simp only[xG,Bool.and_eq_true,List.all_eq_true,decide_eq_true_eq]at ho;obtain⟨⟨⟨h1,h2⟩,h3⟩,h4⟩:=ho;have hx:=h1 _ (List.mem_of_getElem? (aD hi));rcases hb with hb|hb|hb
 ·omega
 ·omega
 ·obtain⟨_,_,_,_,g⟩:=h;rw[g (at1 l i).toNat (by omega),decide_eq_true_eq,show(((at1 l i).toNat:Nat):Int)=at1 l i by omega]at hb;have h5:(l.take (i+1)).Nodup:=List.Nodup.sublist (List.take_sublist _ _) h2;rw[OO hi]at h5;exact(YK.1 h5).2 hb
theorem apV {n:Int}{s:Nat}(h:anP n l i s)(hi:i<l.length)(hx:0<=at1 l i/\at1 l i<n)(hn:n<=8)(hs:s.testBit (at1 l i).toNat=false):anP n l (i+1) (s|||2^(at1 l i).toNat):=by
 obtain⟨g1,g2,g3,g4,g5⟩:=h;have hpow:2^(at1 l i).toNat<2^8:=Nat.pow_lt_pow_right (by omega) (by omega);refine⟨fun _=>hn,Nat.or_lt_two_pow (n:=8) g2 hpow,fun x hxm=> ?_,?_,fun x hx8=> ?_⟩
 ·rw[OO hi]at hxm;rcases List.mem_append.1 hxm with h|h
  ·exact g3 x h
  ·rw[List.mem_singleton.1 h];exact hx
 ·rw[OO hi,YK];refine⟨g4,fun hm=> ?_⟩;rw[g5 _ (by omega),decide_eq_false_iff_not]at hs;apply hs;rw[show(((at1 l i).toNat:Nat):Int)=at1 l i by omega];exact hm
 ·rw[Nat.testBit_or,Nat.testBit_two_pow,g5 x hx8,OO hi,Bool.eq_iff_iff,Bool.or_eq_true,decide_eq_true_eq,decide_eq_true_eq,decide_eq_true_eq,List.mem_append,List.mem_singleton];refine or_congr_right ⟨fun h=>by omega,fun h=>by omega⟩
theorem aqM {n:Int}{s:Nat}(h:anP n l l.length s):xG n l=(inR n 1 8&&decide ((l.length:Int)=n)):=by
 obtain⟨g1,g2,g3,g4,g5⟩:=h;rw[List.take_length]at g3 g4
 have h1:l.all (fun x=>inR x 0 (n-1))=true:=by
  rw[List.all_eq_true];intro x hx;have:=g3 x hx;simp;omega
 have h2:decide l.Nodup=true:=by simpa using g4
 rw[xG,h1,h2,Bool.true_and,Bool.true_and]
def qH (m:L2)(p x:Int)(k:Nat)(l:L1):L1:=if at1 l k<0/\((k:Int)=p\/at2 m p.toNat k>0)then l.set k x else l
def pivOne (m:L2)(order:L1)(i:Nat)(l:L1):L1:=if 0<=at1 l (at1 order i).toNat then l else loopN m.length l (qH m (at1 order i) i)
def VU (m:L2)(order:L1):L1:=loopN order.length (List.replicate m.length (-1)) (pivOne m order)
def eD (m:L2)(order:L1):L1:=canon (VU m order)
def rot (n s:Nat):L1:=(List.range n).map fun i=>(((s+i) % n:Nat):Int)
def pJ (m:L2)(s:Nat)(b:L1×Int):L1×Int:=if b.2<0\/aQ m (eD m (rot m.length s))<b.2 then(eD m (rot m.length s),aQ m (eD m (rot m.length s)))else b
def fA (m:L2):L1×Int:=loopN m.length ([], -1) (pJ m)
theorem TC:∀(l:L1) (s:L1×L1),(l.foldl dJ s).1.length=s.1.length+l.length
 |[],s=>by simp
 |x::l,s=>by
  have h:(dJ s x).1.length=s.1.length+1:=by unfold dJ;split<;>simp
  rw[List.foldl_cons,TC l,h,List.length_cons];omega
theorem jE (l:L1):(canon l).length=l.length:=by simp[canon,TC]
theorem ae7 (m:L2)(p x:Int)(k:Nat)(l:L1):(qH m p x k l).length=l.length:=by unfold qH;split<;>simp
theorem qZ (h:∀k l,(f k l).length=l.length):(loopN n l f).length=l.length:=loopN_inv (fun _ (x:L1)=>x.length=l.length) rfl fun i x _ hx=>by rw[h,hx]
theorem alB (m:L2)(o:L1)(i:Nat)(l:L1):(pivOne m o i l).length=l.length:=by
 unfold pivOne;split
 ·rfl
 ·exact qZ (ae7 m _ _)
theorem LP (m:L2)(o:L1):(eD m o).length=m.length:=by
 unfold eD VU;rw[jE,qZ (alB m o)];simp
theorem NU (h:xG n l=true):l.length=n/\1<=n/\n<=8/\l.Nodup/\∀i<l.length,0<=at1 l i/\at1 l i<n:=by
 simp only[xG,Bool.and_eq_true,List.all_eq_true,decide_eq_true_eq]at h;obtain⟨⟨⟨h1,h2⟩,h3⟩,h4⟩:=h;refine⟨by omega,by omega,by omega,h2,fun i hi=> ?_⟩;have:=h1 _ (List.mem_of_getElem? (aD hi));omega
theorem al0 {s:Nat}(hn:1<=n/\n<=8)(hs:s<n):xG n (rot n s)=true:=by
 have hb:∀n'≤8,∀s'<n',xG (n':Nat) (rot n' s')=true:=by decide
 exact hb n hn.2 s hs
def sV (l:L1):Int:=loopN l.length (-1) fun i t=>max t (at1 l i)
def pG (l:L1)(x y:Int):Bool:=bM l&&inR x 0 ((l.length:Int)-1)&&inR y 0 (sV l+1)
def jY (l:L1)(x y:Int):L1:=if pG l x y=true then canon (l.set x.toNat y)else l
def nA (m:L2)(l:L1):Int:=if aI m=true/\bM l=true/\l.length=m.length then aQ m l else -1
def BK (m:L2)(l:L1)(x y:Int):Int:=if pG l x y=true/\0<=nA m l then nA m l-nA m (jY l x y)else 0
def keepP (cs:List Con)(l:L1):Bool:=cs.all (oN l)&&bM l
def oW (m:L2)(cs:List Con)(l:L1)(i k:Nat)(b:Mov):Mov:=if pG l i k=true/\BK m l i k>b.gain/\keepP cs (jY l i k)=true then⟨i,k,BK m l i k⟩else b
def X0 (m:L2)(cs:List Con)(l:L1)(i:Nat)(b:Mov):Mov:=loopN (l.length+1) b (oW m cs l i)
def ag7 (m:L2)(cs:List Con)(l:L1):Bool:=decide (0<=nA m l)&&keepP cs l
def gG (m:L2)(cs:List Con)(l:L1):Mov:=if ag7 m cs l=true then loopN l.length ⟨0,0,0⟩ (X0 m cs l)else⟨0,0,0⟩
def kE (m:L2)(cs:List Con):Nat->L1->L1
 |0,l=>l
 |f+1,l=>if 0<(gG m cs l).gain then kE m cs f (jY l (gG m cs l).item (gG m cs l).block)else l
theorem JL (l:L1)(x y:Int):(jY l x y).length=l.length:=by unfold jY;split;(rw[jE];simp);rfl
theorem aiJ (h:bM l=true): -1<=sV l/\sV l<=8:=by
 have h1:=isPart_iff.1 h;have key:∀j≤l.length, -1<=loopN j (-1) (fun i t=>max t (at1 l i)):=fun j _=>loopN_inv (fun _ (t:Int)=> -1<=t) (by omega) fun i t _ ht=>by omega
 refine⟨key _ (Nat.le_refl _),?_⟩
 have h2:∀i<l.length,at1 l i<=i:=by
  intro i hi
  induction i using Nat.strongRecOn with
  |_ i ih=>
   rcases Int.lt_or_le (i:Int) (at1 l i)with hlt|hle
   ·-- more smaller labels than places
    exfalso;obtain⟨j,hj,e⟩:=(h1.1 i hi).2 i (by omega) hlt;have:=ih j hj (by omega);omega
   ·exact hle
 refine loopN_inv (n:=l.length) (fun _ (t:Int)=>t<=8) (by omega) fun i t hi ht=> ?_;have:=h2 i hi;omega
theorem rO (m:L2)(l:L1): -1<=nA m l/\nA m l<=1000000:=by
 unfold nA;split
 ·rename_i h;have h0:=eB h.1 l;have h8:=isPart_len h.2.1;refine⟨by omega,?_⟩
  have row:∀(i:Nat) (s:Int),i<l.length->qF m l i s<=s+1000*i:=fun i s _=>by
   have:=loopN_inv (n:=i) (s:=s) (f:=fun k s=>s+lF m l i k) (fun k (t:Int)=>t<=s+1000*k) (by omega) (fun k t _ ht=>by
    have:=bZ h.1 i k;simp only[lF];split
    ·omega
    ·split<;>omega)
   exact this
  have key:=loopN_inv (n:=l.length) (s:=0) (f:=qF m l) (fun i (s:Int)=>s<=8000*i) (by omega) (fun i s hi hs=>by have:=row i s hi;omega);unfold aQ;omega
 ·omega
theorem agK (m:L2)(l:L1)(x y:Int): -2000000<=BK m l x y/\BK m l x y<=2000000:=by
 have h1:=rO m l;have h2:=rO m (jY l x y);unfold BK;split<;>omega
theorem afJ (x:Int)(s:L1)(n:Nat):(mG x s n<0->∀j<n,at1 s j≠x)/\(0<=mG x s n->mG x s n<n/\at1 s (mG x s n).toNat=x):=by
 induction n with
 |zero=>exact⟨fun _ j hj=>by omega,fun h=>by simp[mG,loopN_zero]at h⟩
 |succ n ih=>
  have e:mG x s (n+1)=if at1 s n=x then(n:Int)else mG x s n:=by rw[mG,aA];rfl
  rw[e];split
  ·rename_i h;exact⟨fun h2=>by omega,fun _=>⟨by omega,by simpa using h⟩⟩
  ·rename_i h;refine⟨fun h2 j hj=> ?_,fun h2=> ?_⟩
   ·by_cases hjn:j=n
    ·subst hjn;exact h
    ·exact ih.1 h2 j (by omega)
   ·have:=ih.2 h2;exact⟨by omega,this.2⟩
structure aw4 (l:L1) (i:Nat) (s:L1×L1):Prop where
 len:s.1.length=i
 at_:∀j<i,0<=at1 s.1 j/\at1 s.1 j<s.2.length/\at1 s.2 (at1 s.1 j).toNat=at1 l j
 nd:∀a b:Nat,a<s.2.length->b<s.2.length->at1 s.2 a=at1 s.2 b->a=b
 ex:∀v:Int,0<=v->v<s.2.length->∃j<i,at1 s.1 j=v
 rg:RG s.1
theorem aw4.step {l:L1}{i:Nat}{s:L1×L1}(h:aw4 l i s)(hi:i<l.length):aw4 l (i+1) (dJ s (at1 l i)):=by
 have hL:=afJ (at1 l i) s.2 s.2.length;unfold dJ;have hsn:∀(x:Int) (j:Nat),j<i->at1 (s.1++[x]) j=at1 s.1 j:=fun x j hj=>by rw[fG,if_pos (by rw[h.len];exact hj)]
 have hsi:∀x:Int,at1 (s.1++[x]) i=x:=fun x=>by rw[fG,if_neg (by rw[h.len];omega),if_pos h.len.symm]
 split
 ·rename_i hneg;have hno:=hL.1 hneg;have hq:∀j<s.2.length,at1 (s.2++[at1 l i]) j=at1 s.2 j:=fun j hj=>by rw[fG,if_pos hj]
  have hqn:at1 (s.2++[at1 l i]) s.2.length=at1 l i:=by rw[fG,if_neg (by omega),if_pos rfl]
  refine⟨by simp[h.len],fun j hj=> ?_,fun a b ha hb e=> ?_,fun v h1 h2=> ?_,?_⟩
  ·simp only[List.length_append,List.length_singleton];by_cases hji:j=i
   ·subst hji;rw[hsi];exact⟨by omega,by omega,by simpa using hqn⟩
   ·obtain⟨g1,g2,g3⟩:=h.at_ j (by omega);rw[hsn _ j (by omega)];exact⟨g1,by omega,by rw[hq _ (by omega)];exact g3⟩
  ·simp only[List.length_append,List.length_singleton]at ha hb;by_cases ha2:a=s.2.length
   ·by_cases hb2:b=s.2.length
    ·omega
    ·rw[ha2,hqn,hq b (by omega)]at e;exact absurd e.symm (hno b (by omega))
   ·by_cases hb2:b=s.2.length
    ·rw[hb2,hqn,hq a (by omega)]at e;exact absurd e (hno a (by omega))
    ·rw[hq a (by omega),hq b (by omega)]at e;exact h.nd a b (by omega) (by omega) e
  ·simp only[List.length_append,List.length_singleton]at h2;by_cases hv:v=s.2.length
   ·exact⟨i,by omega,by rw[hsi,hv]⟩
   ·obtain⟨j,hj,e⟩:=h.ex v h1 (by omega);exact⟨j,by omega,by rw[hsn _ j hj,e]⟩
  ·have:=O8 (nx:=s.2.length) h.rg (fun v h1 h2=>by obtain⟨j,hj,e⟩:=h.ex v h1 h2;exact⟨j,by rw[h.len];exact hj,e⟩) (Nat.le_refl _);exact this
 ·rename_i hneg;obtain⟨hlt,hat⟩:=hL.2 (by omega);refine⟨by simp[h.len],fun j hj=> ?_,h.nd,fun v h1 h2=> ?_,?_⟩
  ·by_cases hji:j=i
   ·subst hji;rw[hsi];exact⟨by omega,hlt,hat⟩
   ·rw[hsn _ j (by omega)];exact h.at_ j (by omega)
  ·obtain⟨j,hj,e⟩:=h.ex v h1 h2;exact⟨j,by omega,by rw[hsn _ j hj,e]⟩
  ·have hn:mG (at1 l i) s.2 s.2.length=((mG (at1 l i) s.2 s.2.length).toNat:Int):=by omega
   rw[hn];exact O8 (nx:=s.2.length) h.rg (fun v h1 h2=>by obtain⟨j,hj,e⟩:=h.ex v h1 h2;exact⟨j,by rw[h.len];exact hj,e⟩) (by omega)
theorem aC0 (l:L1):∀i≤l.length,aw4 l i ((l.take i).foldl dJ ([],[])):=by
 intro i hi
 induction i with
 |zero=>exact⟨rfl,fun j hj=>by omega,fun a b ha=>by simp at ha,fun v h1 h2=>by simp at h2;omega,ajQ⟩
 |succ i ih=>rw[bB dJ ([],[]) (aD (by omega))];exact(ih (by omega)).step (by omega)
theorem BR (l:L1):RG (canon l):=by
 have:=(aC0 l l.length (Nat.le_refl _)).rg
 rwa [List.take_length]at this
theorem abZ (l:L1)(i k:Nat)(hi:i<l.length)(hk:k<l.length):at1 (canon l) i=at1 (canon l) k↔at1 l i=at1 l k:=by
 have h:=aC0 l l.length (Nat.le_refl _);rw[List.take_length]at h;have h1:=h.at_ i hi;have h2:=h.at_ k hk;show at1 (l.foldl dJ ([],[])).1 i=at1 (l.foldl dJ ([],[])).1 k↔_;constructor
 ·intro e;rw[←h1.2.2,←h2.2.2,e]
 ·intro e;rw[←h1.2.2,←h2.2.2]at e;have:=h.nd _ _ (by omega) (by omega) e;omega
theorem afN {a b:L1}(hl:a.length=b.length)(h:∀i k,i<a.length->k<a.length->(at1 a i=at1 a k↔at1 b i=at1 b k)):canon a=canon b:=by
 have h1:=jE a;have h2:=jE b;refine RG.unique (by omega) (BR a) (BR b) fun i k hi hk=> ?_;rw[abZ a i k (by omega) (by omega),abZ b i k (by omega) (by omega)];exact h i k (by omega) (by omega)
theorem aqN (h:RG l):∀i<l.length,at1 l i<=i:=by
 intro i hi
 induction i using Nat.strongRecOn with
 |_ i ih=>
  rcases Int.lt_or_le (i:Int) (at1 l i)with hlt|hle
  ·exfalso;obtain⟨j,hj,e⟩:=(h i hi).2 i (by omega) hlt;have:=ih j hj (by omega);omega
  ·exact hle
def eX (s:L2)(r:List Con):L1:=if keepP r (fA s).1=true then(fA s).1 else aV s.length r
def partOf (m:L2)(cs:List Con)(items:L1):L1:=
 if 6<items.length then kE (dZ m items) (bX cs items) 100 (eX (dZ m items) (bX cs items))else(TE (dZ m items) (bX cs items)).best
def UZ (items l:L1)(i:Int)(k:Nat)(L:L1):L1:=L.set (at1 items k).toNat (i*8+at1 l k)
def wI (m:L2)(cs:List Con)(bs:L2)(i:Nat)(L:L1):L1:=loopN (gat bs i).length L (UZ (gat bs i) (partOf m cs (gat bs i)) i)
def abF (m:L2)(cs:List Con)(bs:L2):L1:=loopN bs.length (List.replicate m.length 0) (wI m cs bs)
def iG (m:L2)(cs:List Con):L1:=canon (abF m cs (blocksP (aO m cs)))
def iA (m:L2)(cs:List Con):L1:=if aX m.length cs=true then iG m cs else[]
theorem abK (m:L2)(cs:List Con):∀(f:Nat) (l:L1),(kE m cs f l).length=l.length
 |0,l=>rfl
 |f+1,l=>by
  rw[kE];split
  ·rw[abK m cs f,JL]
  ·rfl
theorem ar4 (h:RG l)(x y:Int):RG (jY l x y):=by
 unfold jY;split
 ·exact BR _
 ·exact h
theorem aiH (m:L2)(cs:List Con):∀(f:Nat) (l:L1),RG l->RG (kE m cs f l)
 |0,l,h=>h
 |f+1,l,h=>by
  rw[kE];split
  ·exact aiH m cs f _ (ar4 h _ _)
  ·exact h
theorem M6 {m:L2}(hm:aI m=true):(fA m).1.length=m.length/\RG (fA m).1/\0<=(fA m).2:=by
 have hml:=aP hm
 have key:∀j≤m.length,1<=j->(loopN j ([], -1) (pJ m)).1.length=m.length/\RG (loopN j ([], -1) (pJ m)).1/\0<=(loopN j ([], -1) (pJ m)).2:=by
  intro j hj h1
  induction j with
  |zero=>omega
  |succ j ih=>
   rw[aA];have hp:=eB hm (eD m (rot m.length j));have hl:=LP m (rot m.length j);unfold pJ;split
   ·exact⟨hl,BR _,hp⟩
   ·rename_i h;by_cases hj0:j=0
    ·subst hj0;simp[loopN_zero]at h
    ·exact ih (by omega) (by omega)
 exact key m.length (Nat.le_refl _) hml.1
theorem afM {r:List Con}(h:bM l=true):keepP r l=gW r l:=by simp[keepP,gW,h]
theorem K9 {s:L2}{r:List Con}(hs:aI s=true)(hr:aN s.length r=true):(eX s r).length=s.length/\RG (eX s r):=by
 have h1:=M6 hs;have h2:=iC hr;unfold eX;split
 ·exact⟨h1.1,h1.2.1⟩
 ·exact⟨h2.1,h2.2.1⟩
structure Part (m:L2) (cs:List Con) (items:L1):Prop where
 mat:aI (dZ m items)=true
 len:(dZ m items).length=items.length
 con:aX items.length (bX cs items)=true
 are:aN items.length (bX cs items)=true
theorem adY {m:L2}{cs:List Con}(hm:aI m=true)(hc:aX m.length cs=true)(hs:FL m.length items)(h1:1<=items.length)(h8:items.length<=m.length):Part m cs items:=by
 have hml:=aP hm;have h3:=ZB hc hs ⟨h1,by omega⟩;exact⟨ap6 hm ⟨h1,by omega⟩ hs.2,by simp[dZ],h3,(cZ.1 h3).1⟩
theorem aa7 {m:L2}{cs:List Con}(h:Part m cs items):(partOf m cs items).length=items.length/\RG (partOf m cs items):=by
 unfold partOf;split
 ·have h2:=K9 h.mat (r:=bX cs items) (by rw[h.len];exact h.are);refine⟨by rw[abK,h2.1,h.len],aiH _ _ _ _ h2.2⟩
 ·rw[QQ h.mat (by rw[h.len];exact h.are)];have:=axQ h.mat (cs:=bX cs items) (by rw[h.len];exact h.con);exact⟨by rw[this.2.2,h.len],this.2.1⟩
theorem IA (m:L2)(cs:List Con)(bs:L2)(i:Nat)(L:L1):(wI m cs bs i L).length=L.length:=qZ fun k l=>by simp[UZ]
theorem Q0 (m:L2)(cs:List Con)(bs:L2):(abF m cs bs).length=m.length:=by rw[abF,qZ (IA m cs bs)];simp
theorem aiO {w:L1}(n:Nat)(h:∀i<n,lS l w i=true):oF l w n<=1000*lX w n:=by
 induction n with
 |zero=>simp[oF,lX,loopN]
 |succ n ih=>
  have h1:=ih fun i hi=>h i (by omega);have h2:=h n (by omega);simp only[lS,Bool.and_eq_true,decide_eq_true_eq]at h2;have h3:at1 l n*at1 w n<=1000*at1 w n:=Int.mul_le_mul_of_nonneg_right h2.1.2 h2.2.1;have e1:oF l w (n+1)=oF l w n+at1 l n*at1 w n:=aA _ _ _;have e2:lX w (n+1)=lX w n+at1 w n:=aA _ _ _;rw[e1,e2];omega
theorem adC (l w:L1):0<=iZ l w/\iZ l w<=1000:=by
 unfold iZ;split
 ·next h=>
  have h1:∀i<l.length,lS l w i=true:=fun i hi=>List.all_eq_true.1 h.2 i (List.mem_range.2 hi);have a:=tY l.length h1;have b:=uN l.length h1;have c:=aiO l.length h1;split
  ·omega
  ·rename_i hne;rw[Int.tdiv_eq_ediv_of_nonneg a.1];refine⟨Int.ediv_nonneg a.1 b.1,?_⟩;exact Int.ediv_le_of_le_mul (by omega) c
 ·omega
theorem XG (s:Sco)(f:L1):0<=fK s f/\fK s f<=1000:=by
 unfold fK;split
 ·exact adC _ _
 ·omega
theorem VL (rs:List (List Tst))(s:Sco)(f:L1): -1000<=cK rs s f/\cK rs s f<=1000:=by
 unfold cK;split
 ·next h=>
  have h1:=XG s f;have h2:=h.2.1;simp only[fC,Bool.and_eq_true,inR,decide_eq_true_eq]at h2;have h3:=h2.2;split<;>omega
 ·omega
theorem KW (l:List Rec)(rs:List (List Tst))(s:Sco)(i k:Nat):eZ l rs s i k=eZ l rs s k i:=by
 unfold eZ;rw[Nat.min_comm,Nat.max_comm];by_cases h:i=k
 ·simp[h]
 ·rw[if_neg h,if_neg (Ne.symm h)]
theorem MZ (l:List Rec)(rs:List (List Tst))(s:Sco)(hi:i<l.length)(hk:k<l.length):at2 (weights l rs s) i k=eZ l rs s i k:=by
 simp[at2,weights,oK,hi,hk]
theorem zR {l:List Rec}(rs:List (List Tst))(s:Sco)(h:1<=l.length/\l.length<=8):aI (weights l rs s)=true:=by
 have hl:(weights l rs s).length=l.length:=by simp[weights]
 simp only[aI,Bool.and_eq_true,List.all_eq_true,List.mem_range,decide_eq_true_eq,hl];refine⟨⟨fun r hr=> ?_,fun i hi k hk=> ?_⟩,by first|omega|(simp;omega)⟩
 ·simp only[weights,List.mem_map]at hr;obtain⟨i,_,rfl⟩:=hr;simp[oK]
 ·simp only[yE,Bool.and_eq_true,inR,decide_eq_true_eq,Bool.or_eq_true];rw[MZ l rs s hi hk,MZ l rs s hk hi];refine⟨⟨?_,KW l rs s i k⟩,?_⟩
  ·unfold eZ;split
   ·omega
   ·exact VL _ _ _
  ·by_cases h:i=k
   ·right;simp[eZ,h]
   ·left;exact h
theorem au7 {l:List Ver}(v:Ver)(h:l.length<=8):(qN l v).length<=8:=by
 unfold qN;split
 ·next h2=>
  simp only[yJ,Bool.and_eq_true,decide_eq_true_eq]at h2;have:=atP l v;simp only[List.length_append,List.length_take,List.length_drop,List.length_cons,List.length_nil];omega
 ·exact h
theorem ai1 {α:Type}{P:α->Bool}{l:List α}{c:α}(h:P c=false):ix P (l++[c])=ix P l:=by
 unfold ix;rw[List.findIdx?_append];cases l.findIdx? P<;>simp[h]
theorem acE (x:Int){s:L1}(hs:s.Nodup):∀n,n<=s.length->mG x s n=ix (fun y=>decide (x=y)) (s.take n)
 |0,_=>by simp[mG,loopN,ix]
 |n+1,h=>by
  have ih:=acE x hs n (by omega);have e:mG x s (n+1)=if at1 s n=x then(n:Int)else mG x s n:=aA _ _ _
  obtain⟨c,hc⟩:=aC (l:=s) (i:=n) (by omega);have hca:at1 s n=c:=by have:=aD (l:=s) (i:=n) (by omega);rw[hc]at this;exact(Option.some.inj this).symm
  rw[e,hca,aU hc];by_cases hx:c=x
  ·rw[if_pos hx];have hl:(s.take n).length=n:=by rw[List.length_take];omega
   have h1:(s.take n++[c])[n]?=some c:=by rw[List.getElem?_append_right (by omega),hl];simp
   have hno:((s.take n++[c]).take n).any (fun y=>decide (x=y))=false:=by
    rw[List.take_append_of_le_length (by simp;omega)];rw[List.any_eq_false];intro y hy;simp only[List.take_take,Nat.min_self]at hy;have hnd:(s.take (n+1)).Nodup:=hs.sublist (List.take_sublist _ _);rw[aU hc,List.nodup_append]at hnd;have:=hnd.2.2 y hy c (by simp);simp;omega
   exact(vH h1 hno (by simp[hx])).symm
  ·rw[if_neg hx,ih,ai1 (by simp;omega)]
def O4 (m:L2)(i k:Nat):Bool:=inR (at2 m i k) (-1000) 1000&&decide (at2 m k i=at2 m i k)
def wB (m:L2)(i:Nat):Bool:=decide ((gat m i).length=m.length)&&decide (at2 m i i=0)&&(List.range i).all (O4 m i)
theorem RF (m:L2):aI m=((List.range m.length).all (wB m)&&inR m.length 1 8):=by
 rw[Bool.eq_iff_iff];simp only[aI,wB,O4,yE,Bool.and_eq_true,List.all_eq_true,List.mem_range,decide_eq_true_eq,Bool.or_eq_true];constructor
 ·rintro⟨⟨h1,h2⟩,h3⟩;refine⟨fun i hi=>⟨⟨?_,?_⟩,fun k hk=> ?_⟩,h3⟩
  ·obtain⟨r,hr⟩:=aC hi;rw[sJ hr];exact h1 r (List.mem_of_getElem? hr)
  ·have:=(h2 i hi i hi).2;simpa using this
  ·have a:=(h2 i hi k (by omega)).1;exact⟨a.1,a.2.symm⟩
 ·rintro⟨h,h3⟩;refine⟨⟨fun r hr=> ?_,fun i hi k hk=> ?_⟩,h3⟩
  ·obtain⟨i,hi⟩:=List.getElem?_of_mem hr;have:=(h i (aS hi)).1.1
   rwa [sJ hi]at this
  ·rcases Nat.lt_trichotomy i k with hlt|rfl|hlt
   ·have a:=(h k hk).2 i hlt;exact⟨⟨by rw[a.2];exact a.1,a.2⟩,.inl (by omega)⟩
   ·have a:=(h i hi).1.2;exact⟨⟨by omega,rfl⟩,.inr a⟩
   ·have a:=(h i hi).2 k hlt;exact⟨⟨a.1,a.2.symm⟩,.inl (by omega)⟩
theorem ae0 {m:L2}(h:k<i)(hp:O4 m i k=false):wB m i=false:=by
 unfold wB;rw[gP h hp,Bool.and_false]
theorem anM {m:L2}(h1:(gat m i).length=m.length)(h2:at2 m i i=0)(h:(List.range i).all (O4 m i)=true):wB m i=true:=by
 unfold wB;rw[h];simp[h1,h2]
def zeros (n:Nat):L2:=List.replicate n (List.replicate n 0)
def set2 (m:L2)(i k:Nat)(v:Int):L2:=m.set i ((gat m i).set k v)
def sq2 (n:Nat)(m:L2):Prop:=m.length=n/\∀r∈m,r.length=n
theorem jK (n:Nat):sq2 n (zeros n):=⟨by simp[zeros],fun r hr=>by obtain⟨_,rfl⟩:=List.mem_replicate.1 hr;simp⟩
theorem kU {m:L2}(h:sq2 n m)(hi:i<n):m[i]?=some (gat m i)/\(gat m i).length=n:=by
 obtain⟨r,hr⟩:=aC (l:=m) (i:=i) (by rw[h.1];exact hi);rw[sJ hr];exact⟨hr,h.2 r (List.mem_of_getElem? hr)⟩
theorem VQ (m:L2)(i k:Nat):at2 m i k=at1 (gat m i) k:=rfl
theorem D8 {m:L2}(h:sq2 n m)(hi:i<n)(hk:k<n):(gat m i)[k]?=some (at2 m i k):=by
 rw[VQ];exact aD (by rw[(kU h hi).2];exact hk)
theorem oM {m:L2}(h:sq2 n m)(hi:i<n)(v:Int):sq2 n (set2 m i k v):=by
 refine⟨by simp[set2,h.1],fun r hr=> ?_⟩;rcases List.mem_or_eq_of_mem_set hr with h1|rfl
 ·exact h.2 r h1
 ·simp[(kU h hi).2]
theorem vK {m:L2}(h:sq2 n m)(hi:i<n)(hk:k<n)(v:Int)(a b:Nat):at2 (set2 m i k v) a b=if a=i/\b=k then v else at2 m a b:=by
 rw[VQ,set2,alN a (by rw[h.1];exact hi)];by_cases ha:i=a
 ·subst ha;rw[if_pos rfl,qA b (by rw[(kU h hi).2];exact hk),VQ];by_cases hb:k=b
  ·subst hb;simp
  ·rw[if_neg hb,if_neg (by omega)]
 ·rw[if_neg ha,if_neg (by omega),VQ]
theorem CF (n a b:Nat):at2 (zeros n) a b=0:=by
 by_cases ha:a<n<;>by_cases hb:b<n<;>simp[at2,zeros,List.getD_eq_getElem?_getD,ha,hb]
theorem acK {m:L2}(h:sq2 n m)(hn:1<=n/\n<=8)(hr:∀a b,a<n->b<n-> -1000<=at2 m a b/\at2 m a b<=1000/\at2 m a b=at2 m b a)(hd:∀a<n,at2 m a a=0):aI m=true:=by
 rw[RF,h.1];simp only[wB,O4,Bool.and_eq_true,List.all_eq_true,List.mem_range,decide_eq_true_eq];refine⟨fun i hi=>⟨⟨?_,hd i hi⟩,fun k hk=> ?_⟩,by omega⟩
 ·rw[(kU h hi).2,h.1]
 ·have:=hr i k hi (by omega);exact⟨⟨this.1,this.2.1⟩,this.2.2.symm⟩
def jX (m:L2)(c:Con):L2:=if c.same then set2 (set2 m c.a.toNat c.b.toNat 1) c.b.toNat c.a.toNat 1 else m
def GK (n:Nat)(l:List Con):L2:=l.foldl jX (zeros n)
theorem O5 {m:L2}{c:Con}(h:sq2 n m)(hc:0<=c.a/\c.a<c.b/\c.b<(n:Int)):sq2 n (jX m c):=by
 unfold jX;split
 ·exact oM (oM h (by omega) 1) (by omega) 1
 ·exact h
theorem WJ :∀(cs:List Con) (m:L2),sq2 n m->(∀c∈cs,0<=c.a/\c.a<c.b/\c.b<(n:Int))->sq2 n (cs.foldl jX m)/\∀a b,at2 (cs.foldl jX m) a b=if(cs.any fun c=>c.same&&(decide (c.a=a/\c.b=b)||decide (c.a=b/\c.b=a)))=true then 1 else at2 m a b
 |[],m,h,_=>⟨h,fun a b=>by simp⟩
 |c::cs,m,h,hc=>by
  have h0:=hc c (by simp);obtain⟨h1,h2⟩:=WJ cs (jX m c) (O5 h h0) fun d hd=>hc d (by simp[hd]);refine⟨h1,fun a b=> ?_⟩;rw[List.foldl_cons,h2,List.any_cons];by_cases hx:(cs.any fun c=>c.same&&(decide (c.a=a/\c.b=b)||decide (c.a=b/\c.b=a)))=true
  ·rw[if_pos hx,hx,Bool.or_true,if_pos rfl]
  ·have hx2:(cs.any fun c=>c.same&&(decide (c.a=a/\c.b=b)||decide (c.a=b/\c.b=a)))=false:=by simpa using hx
   rw[if_neg hx,hx2,Bool.or_false];unfold jX;cases hs:c.same with
   |false=>simp
   |true=>
    simp only[if_true,Bool.true_and];rw[vK (oM h (by omega) 1) (by omega) (by omega),vK h (by omega) (by omega)];by_cases h3:a=c.b.toNat/\b=c.a.toNat
    ·rw[if_pos h3,if_pos];simp only[Bool.or_eq_true,decide_eq_true_eq];omega
    ·rw[if_neg h3];by_cases h4:a=c.a.toNat/\b=c.b.toNat
     ·rw[if_pos h4,if_pos];simp only[Bool.or_eq_true,decide_eq_true_eq];omega
     ·rw[if_neg h4,if_neg];simp only[Bool.or_eq_true,decide_eq_true_eq];omega
theorem Y7 {cs:List Con}(hc:aN n cs=true):sq2 n (GK n cs)/\∀a b,(at2 (GK n cs) a b=0\/at2 (GK n cs) a b=1)/\(0<at2 (GK n cs) a b↔∃c∈cs,EE c a b):=by
 obtain⟨h1,h2⟩:=WJ cs (zeros n) (jK n) (lV hc);refine⟨h1,fun a b=> ?_⟩;have h3:=h2 a b;rw[CF]at h3;rw[GK,h3]
 have h4:(cs.any fun c=>c.same&&(decide (c.a=a/\c.b=b)||decide (c.a=b/\c.b=a)))=true↔∃c∈cs,EE c a b:=by
  simp[List.any_eq_true,EE]
 rw[←h4];by_cases h:(cs.any fun c=>c.same&&(decide (c.a=a/\c.b=b)||decide (c.a=b/\c.b=a)))=true
 ·rw[if_pos h];exact⟨.inr rfl,fun _=>h,fun _=>by omega⟩
 ·rw[if_neg h];exact⟨.inl rfl,fun h2=>absurd h2 (by omega),fun h2=>absurd h2 h⟩
theorem UF {cs:List Con}(hc:aN n cs=true):aI (GK n cs)=true:=by
 obtain⟨h1,h2⟩:=Y7 hc;have hn:=fO hc
 have hs:∀a b,at2 (GK n cs) a b=at2 (GK n cs) b a:=by
  intro a b;have e1:=(h2 a b).2;have e2:=(h2 b a).2;have e3:(∃c∈cs,EE c a b)↔∃c∈cs,EE c b a:=⟨fun⟨c,h,h'⟩=>⟨c,h,LD h'⟩,fun⟨c,h,h'⟩=>⟨c,h,LD h'⟩⟩;rw[e3,←e2]at e1;have:=(h2 a b).1;have:=(h2 b a).1;omega
 refine acK h1 (by omega) (fun a b _ _=> ?_) fun a ha=> ?_
 ·have:=(h2 a b).1;exact⟨by omega,by omega,hs a b⟩
 ·have e1:=(h2 a a).2;have e0:=(h2 a a).1;rcases e0 with e0|e0
  ·exact e0
  ·obtain⟨c,hm,_,hl⟩:=e1.1 (by omega);have:=lV hc c hm;omega
theorem aiT {cs:List Con}(hc:aN n cs=true):jB (GK n cs)=aV n cs:=
 as0 hc (UF hc) (Y7 hc).1.1 fun a b _ _=>((Y7 hc).2 a b).2
def qC (f:Nat->Nat->Bool)(i k:Nat)(m:L2):L2:=if f i k=true then set2 m i k 1 else m
def Q4 (n:Nat)(f:Nat->Nat->Bool)(i:Nat)(m:L2):L2:=loopN n m (qC f i)
def ones (n:Nat)(f:Nat->Nat->Bool):L2:=loopN n (zeros n) (Q4 n f)
theorem YN {f:Nat->Nat->Bool}{m:L2}(h:sq2 n m)(hi:i<n):sq2 n (qC f i k m):=by
 unfold qC;split
 ·exact oM h hi 1
 ·exact h
theorem aoS {f:Nat->Nat->Bool}{m:L2}(h:sq2 n m)(hi:i<n):sq2 n (loopN j m (qC f i)):=loopN_inv (fun _ m=>sq2 n m) h fun k m _ hm=>YN hm hi
theorem alT {f:Nat->Nat->Bool}(hj:j<=n):sq2 n (loopN j (zeros n) (Q4 n f)):=loopN_inv (fun _ m=>sq2 n m) (jK n) fun i m hi hm=>aoS hm (by omega)
theorem WF {f:Nat->Nat->Bool}{a b:Nat}:at2 (ones n f) a b=if a<n/\b<n/\f a b=true then 1 else 0:=by
 have h:=loopN_inv (n:=n) (s:=zeros n) (f:=Q4 n f) (fun i m=>sq2 n m/\∀a b,at2 m a b=if a<i/\b<n/\f a b=true then 1 else 0) ⟨jK n,fun a b=>by rw[CF,if_neg (by omega)]⟩ fun i m hi ⟨h1,h2⟩=>by
  have h3:=loopN_inv (n:=n) (s:=m) (f:=qC f i) (fun k m'=>sq2 n m'/\∀a b,at2 m' a b=if(a<i/\b<n\/a=i/\b<k)/\f a b=true then 1 else 0) ⟨h1,fun a b=>by rw[h2];split<;>split<;>first|rfl|(exfalso;simp_all;done)|(exfalso;grind)⟩ fun k m' hk ⟨h4,h5⟩=>by
   refine⟨YN h4 hi,fun a b=> ?_⟩;unfold qC;split
   ·next hf=>
    rw[vK h4 hi hk,h5];by_cases hab:a=i/\b=k
    ·obtain⟨rfl,rfl⟩:=hab;simp[hf]
    ·rw[if_neg hab];split<;>split<;>first|rfl|(exfalso;grind)
   ·next hf=>
    rw[h5];split<;>split<;>first|rfl|(exfalso;grind)
  refine⟨h3.1,fun a b=> ?_⟩;rw[Q4,h3.2];split<;>split<;>first|rfl|(exfalso;grind)
 exact h.2 a b
def sW (p q:L1)(i k:Nat):Bool:=decide (i≠k)&&(decide (at1 p i=at1 p k)||decide (at1 q i=at1 q k))
def G8 (p q:L1):L2:=ones p.length (sW p q)
theorem TW {p:L1}(hp:1<=p.length/\p.length<=8):aI (G8 p q)=true:=by
 refine acK (alT (Nat.le_refl _)) hp (fun a b ha hb=> ?_) fun a ha=> ?_
 ·have h1:sW p q a b=sW p q b a:=by
   unfold sW;rw[Bool.eq_iff_iff];simp only[Bool.and_eq_true,Bool.or_eq_true,decide_eq_true_eq];constructor<;>(rintro⟨h1,h2⟩;exact⟨by omega,by omega⟩)
  show -1000<=at2 (G8 p q) a b/\at2 (G8 p q) a b<=1000/\at2 (G8 p q) a b=at2 (G8 p q) b a;rw[G8,WF,WF,h1];refine⟨by split<;>omega,by split<;>omega,?_⟩;simp[ha,hb]
 ·show at2 (G8 p q) a a=0;rw[G8,WF,if_neg];simp[sW]
theorem akP {p:L1}(hp:1<=p.length/\p.length<=8):jB (G8 p q)=vB p q:=by
 refine auD (TW hp) (alT (Nat.le_refl _)).1 fun a b ha hb hne=> ?_;rw[G8,WF];simp only[sW,ha,hb,true_and,Bool.and_eq_true,Bool.or_eq_true,decide_eq_true_eq];split
 ·next h=>simp[h.2]
 ·next h=>simp;omega
theorem aa5 (m:L2)(l:L1)(i k:Nat):lF m l i k=if at1 l i=at1 l k then max 0 (- at2 m i k)else max 0 (at2 m i k):=by
 unfold lF;split<;>split<;>(try split)<;>omega
theorem Z4 (h:a.Perm b):keepP a=keepP b:=by
 funext l;unfold keepP;rw[h.all_eq]
theorem af4 {m:L2}(h:a.Perm b)(l:L1):gG m a l=gG m b l:=by
 have h1:=Z4 h;unfold gG ag7 X0 oW;rw[h1]
theorem YB {m:L2}(h:a.Perm b):∀(f:Nat) (l:L1),kE m a f l=kE m b f l
 |0,l=>rfl
 |f+1,l=>by rw[kE,kE,af4 h,YB h f]
theorem ad6 {s:L2}(h:a.Perm b)(ha:aN s.length a=true):eX s a=eX s b:=by
 unfold eX;rw[Z4 h,QC ha (by rw[←rQ h];exact ha) fun c=>h.mem_iff]
theorem agQ {m:L2}(h:a.Perm b)(hp:Part m a items):partOf m a items=partOf m b items:=by
 have hr:=acZ h items;have ha:aN (dZ m items).length (bX a items)=true:=by rw[hp.len];exact hp.are
 unfold partOf;rw[ad6 hr ha,YB hr,QQ hp.mat ha,QQ hp.mat (by rw[←rQ hr];exact ha),ahH hr]
theorem aaJ {m:L2}(hm:aI m=true)(h:a.Perm b):iA m a=iA m b:=by
 unfold iA;rw[EM h];split
 ·next hb=>
  have ha:aX m.length a=true:=by rw[EM h];exact hb
  have hab:=(cZ.1 hb).1
  have hsp:aO m a=aO m b:=by
   unfold aO;rw[rQ h];split
   ·rw[QC (cZ.1 ha).1 hab fun c=>h.mem_iff]
   ·rfl
  have hsc:=yR hm hab;unfold iG abF;rw[hsp];refine congrArg canon (nO fun i L hi=> ?_);have hsel:=JE (isPart_iff.1 hsc.2.1).1 hi;rw[hsc.2.2]at hsel;unfold wI;rw[agQ h (adY hm ha hsel.1 hsel.2.1 hsel.2.2)]
 ·rfl
def GA (c:UInt8):UInt8:=if nU c=true then c else 32
theorem arD {c:UInt8}(hn:n<256)(h:c.toNat=n):c=UInt8.ofNat n:=by
 apply UInt8.toNat_inj.1;rw[h,UInt8.toNat_ofNat'];omega
theorem anX (c:UInt8):rV c=if c.toNat=39 then[]else[GA c]:=by
 unfold rV GA;by_cases h9:c.toNat=39
 ·have hw:nU c=false:=by unfold nU;rw[h9];decide
  rw[if_pos h9,if_neg (by rw[hw,h9];simp),if_neg (by omega)]
 ·rw[if_neg h9];by_cases hw:nU c=true
  ·rw[if_pos (.inl hw),if_pos hw]
  ·rw[if_neg hw];by_cases h2:c.toNat=32
   ·rw[if_pos (.inr h2),arD (by omega) h2];rfl
   ·rw[if_neg (by rintro(h|h);exact hw h;exact h2 h),if_pos h9]
theorem aq8 (s:Str):(s.filter fun c=> !decide (c=39)).map GA=oZ s:=by
 unfold oZ
 induction s with
 |nil=>rfl
 |cons c s ih=>
  rw[List.flatMap_cons,←ih,anX,List.filter_cons];by_cases h:c=39
  ·subst h;simp
  ·have:¬c.toNat=39:=fun e=>h (arD (n:=39) (by omega) e);simp[h,this]
def PX (o:Str)(c:UInt8):Str:=if c≠32\/(o≠[]/\o.getLast?≠some 32)then o++[c]else o
def aa9 (o:Str):Str:=if o.getLast?=some 32 then o.dropLast else o
theorem alP (s:Str):∀i≤s.length,(s.take i).foldl PX []=loopN i [] (kC s)++(if loopN i [] (kC s)≠[]/\s.getD (i-1) 0=32 then[32]else[])/\(loopN i [] (kC s)).getLast?≠some 32
 |0,_=>by simp[loopN]
 |i+1,h=>by
  obtain⟨h1,h2⟩:=alP s i (by omega);obtain⟨c,hc⟩:=aC (l:=s) (i:=i) (by omega);rw[bB PX [] hc,aA,Nat.add_sub_cancel,P8 hc];generalize loopN i [] (kC s)=o at h1 h2|-
  rw[h1];have h32:∀x:UInt8,x.toNat=32↔x=32:=fun x=>⟨fun e=>arD (n:=32) (by omega) e,fun e=>by subst e;rfl⟩;unfold kC PX;rw[P8 hc];generalize s.getD (i-1) 0=q;simp only[h32];by_cases hs:c=32
  ·subst hs;rw[if_pos rfl];refine⟨?_,h2⟩;by_cases ho:o=[]
   ·subst ho;simp
   ·by_cases hp:q=32
    ·simp[ho,hp]
    ·simp[ho,hp,h2]
  ·rw[if_neg hs,if_pos (.inl hs)];refine⟨?_,by simp[hs]⟩;have:(0<o.length↔o≠[]):=by rw[List.length_pos_iff]
   simp only[this,hs,and_false,if_false,List.append_nil];split<;>simp
theorem UJ (s:Str):uW s=aa9 (s.foldl PX []):=by
 obtain⟨h1,h2⟩:=alP s s.length (Nat.le_refl _);rw[List.take_length]at h1;unfold aa9 uW;rw[h1];generalize loopN s.length [] (kC s)=o at h2|-
 by_cases h:o≠[]/\s.getD (s.length-1) 0=32
 ·rw[if_pos h];simp
 ·rw[if_neg h,List.append_nil,if_neg h2]
def CJ (s:Str):List Str:=(ZE 32 s).filter fun x=>decide (x≠[])
def kQ (s:Str×Int)(c:UInt8):Str×Int:=(if aB c>0/\aB c≠s.2 then s.1++[UInt8.ofNat (48+aB c).toNat]else s.1,if 0<=aB c then aB c else s.2)
theorem aD3 {o:Str}(x:UInt8)(h:o≠[]):(if(o.take 4).length<4 then o.take 4++[x]else o.take 4)=(o++[x]).take 4:=by
 match o with
 |[a]=>rfl
 |[a,b]=>rfl
 |[a,b,c]=>rfl
 |a::b::c::d::t=>simp
theorem alY:∀(s o:Str) (p:Int),o≠[]->s.foldl mV (o.take 4,p)=((s.foldl kQ (o,p)).1.take 4,(s.foldl kQ (o,p)).2)
 |[],o,p,h=>rfl
 |c::s,o,p,h=>by
  have h4:o.take 4≠[]:=by cases o with
   |nil=>exact absurd rfl h
   |cons a t=>simp
  rw[List.foldl_cons,List.foldl_cons]
  have e:mV (o.take 4,p) c=((kQ (o,p) c).1.take 4,(kQ (o,p) c).2):=by
   unfold mV kQ;rw[if_neg h4];simp only;congr 1;by_cases h1:aB c>0/\aB c≠p
   ·rw[if_pos h1,←aD3 _ h];by_cases h2:(o.take 4).length<4
    ·rw[if_pos ⟨h1.1,h1.2,h2⟩,if_pos h2]
    ·rw[if_neg (fun hh=>h2 hh.2.2),if_neg h2]
   ·rw[if_neg (fun hh=>h1 ⟨hh.1,hh.2.1⟩),if_neg h1]
  have hne:(kQ (o,p) c).1≠[]:=by
   unfold kQ;simp only;split
   ·simp
   ·exact h
  rw[e];exact alY s _ _ hne
theorem ao1 {o:Str}(h:o≠[]):VM (o.take 4)=(o++[48,48,48]).take 4:=by
 match o with
 |[a]=>rfl
 |[a,b]=>rfl
 |[a,b,c]=>rfl
 |a::b::c::d::t=>simp[VM]
theorem ajB (c:UInt8)(s:Str)(h:(c::s).all (fun c=>decide (aB c≠ -2))=true):dG (c::s)=((s.foldl kQ ([cB c],aB c)).1++[48,48,48]).take 4:=by
 unfold dG;rw[if_neg (by rw[h];simp),List.foldl_cons];have e:mV ([],0) c=(([cB c]:Str).take 4,aB c):=by simp[mV]
 rw[e,alY s _ _ (by simp),ao1]
 have key:∀(s o:Str) (p:Int),o≠[]->(s.foldl kQ (o,p)).1≠[]:=by
  intro s
  induction s with
  |nil=>exact fun o p h=>h
  |cons d s ih=>
   intro o p h;rw[List.foldl_cons];refine ih _ _ ?_;simp only;split
   ·simp
   ·exact h
 exact key s _ _ (by simp)
theorem aj6 {s:Str}(h:s.all (fun c=>decide (aB c≠ -2))=false):dG s=[]:=by
 unfold dG;rw[if_pos (.inr h)]
theorem UN (c:UInt8):aB c=if 97<=(cB c).toNat/\(cB c).toNat<=122 then codeOf (cB c).toNat else -2:=by
 unfold aB;split
 ·rfl
 ·next h=>
  unfold codeOf;repeat(first|rfl|omega|split)
theorem awO (x y:Str)(tr:Bool):∀(s i j:Nat),i+j=s->ed x y tr i j=ed y x tr j i:=by
 intro s
 induction s using Nat.strongRecOn with
 |_ s ih=>
  intro i j h
  match i,j with
  |0,j=>rw[ed_zero,ed_zero']
  |i+1,0=>rw[ed_zero,ed_zero']
  |i+1,j+1=>
   have e1:=ih (i+j) (by omega) i j rfl;have e2:=ih (i+(j+1)) (by omega) i (j+1) rfl;have e3:=ih (i+1+j) (by omega) (i+1) j rfl;have e4:=ih (i-1+(j-1)) (by omega) (i-1) (j-1) rfl
   have hv:edV x y tr i j=edV y x tr j i:=by
    unfold edV;rw[e1,e2,e3];by_cases hc:chr x i=chr y j
    ·rw[if_pos hc,if_pos hc.symm]
    ·rw[if_neg hc,if_neg (fun e=>hc e.symm)];omega
   have hs:nE x y tr (i+1) (j+1)=nE y x tr (j+1) (i+1):=by
    unfold nE;rw[Bool.eq_iff_iff];simp only[Bool.and_eq_true,decide_eq_true_eq,Nat.add_sub_cancel];have e5:i+1-2=i-1:=by omega
    have e6:j+1-2=j-1:=by omega
    rw[e5,e6];constructor
    ·rintro⟨⟨⟨⟨a,b⟩,c⟩,d⟩,e⟩;exact⟨⟨⟨⟨a,c⟩,b⟩,e.symm⟩,d.symm⟩
    ·rintro⟨⟨⟨⟨a,b⟩,c⟩,d⟩,e⟩;exact⟨⟨⟨⟨a,c⟩,b⟩,e.symm⟩,d.symm⟩
   rw[uP,uP,hv,hs,e4]
theorem ahG (x y:Str):jW x y=jW y x:=by
 rw[SL,SL,awO x y false _ _ _ rfl];have:xP x y=xP y x:=by unfold xP;rw[Bool.and_comm]
 rw[this]
theorem I5 (x y:Str):jJ x y=jJ y x:=by
 have h1:∀a b:Str,oI a b=oI b a:=fun a b=>by unfold oI;rw[ahG,Int.max_comm]
 unfold jJ;rw[h1];by_cases h:normal x=[]\/normal y=[]
 ·rw[if_pos h,if_pos h.symm]
 ·rw[if_neg h,if_neg (fun e=>h e.symm)]
theorem vL:∀(a b:List Str),mcount a b=mcount b a
 |[],[]=>rfl
 |[],_::_=>by simp[mcount]
 |_::_,[]=>by simp[mcount]
 |a::x,b::y=>by
  rw[mcount,mcount];rcases wL a b with h|rfl|h
  ·rw[if_pos h,if_neg (by rw[tF h];simp),if_pos h,vL x (b::y)]
  ·rw[if_neg (by rw[dV];simp),if_neg (by rw[dV];simp),if_neg (by rw[dV];simp),if_neg (by rw[dV];simp),vL x y]
  ·rw[if_neg (by rw[tF h];simp),if_pos h,if_pos h,vL (a::x) y]
termination_by a b=>a.length+b.length
theorem KT (a b:List Str):lM a b=lM b a:=by
 have h1:rZ a b=rZ b a:=by
  rw[MB,MB,vL];have:nG a b=nG b a:=by unfold nG;rw[Bool.and_comm]
  rw[this,Int.add_comm (a.length:Int)]
 unfold lM;rw[h1];by_cases h:a=[]\/b=[]
 ·rw[if_pos h,if_pos h.symm]
 ·rw[if_neg h,if_neg (fun e=>h e.symm)]
theorem IC:∀(a b:Str),shared a b=shared b a
 |[],[]=>rfl
 |[],_::_=>rfl
 |_::_,[]=>rfl
 |a::x,b::y=>by
  rw[shared,shared,IC x y];by_cases h:a=b
  ·rw[if_pos h,if_pos h.symm]
  ·rw[if_neg h,if_neg (fun e=>h e.symm)]
theorem ajD (x y:Str):kK x y=kK y x:=by
 unfold kK yV;rw[IC (digits y).reverse];generalize shared (digits x).reverse (digits y).reverse=n;generalize(digits x).length=a;generalize(digits y).length=b;repeat(first|rfl|omega|split)
theorem am9 (x y:Str):kW x y=kW y x:=by
 have h1:∀a b:Int,gM a b 10=gM b a 10:=fun a b=>by
  unfold gM;rw[Int.max_comm,Int.min_comm];have e:(inR b 0 9999=true/\inR a 0 9999=true/\inR 10 1 9999=true)↔(inR a 0 9999=true/\inR b 0 9999=true/\inR 10 1 9999=true):=⟨fun h=>⟨h.2.1,h.1,h.2.2⟩,fun h=>⟨h.2.1,h.1,h.2.2⟩⟩;simp only[e]
 unfold kW;rw[h1];by_cases h:0<dD x/\0<dD y
 ·rw[if_pos h,if_pos h.symm]
 ·rw[if_neg h,if_neg (fun e=>h e.symm)]
theorem ak0 (a b:Rec):vC a b=vC b a:=by
 unfold vC;rw[I5 (fld a 0),KT (tokens (fld a 0)),KT (fP (fld a 0)),I5 (fld a 1),am9,ajD]
theorem leS (x y:Str):decide (x<=y)= !ltL y x:=by
 unfold ltL;rw[Go.Proofs.bytesLess_eq];by_cases h:y<x
 ·have h2:¬x<=y:=by rw[←List.not_lt];simpa using h
  simp[h,h2]
 ·have h2:x<=y:=by rw[←List.not_lt];exact h
  simp[h,h2]
theorem WO {L:List Str}(hs:∀i j (hi:i<j) (hj:j<L.length),ltL (L[j]'hj) (L[i]'(by omega))=false):∀m≤L.length,Asc (Lib.compactUpTo L.toArray m)/\∀z,z∈Lib.compactUpTo L.toArray m↔z∈L.take m
 |0,_=>by simp[Lib.compactUpTo]
 |m+1,h=>by
  obtain⟨h1,h2⟩:=WO hs m (by omega);have hg:∀i (hi:i<L.length),L.toArray[i]! =L[i]:=fun i hi=>by simp[hi]
  have hx:L[m]?=some L[m]:=List.getElem?_eq_getElem (by omega);rw[Lib.compactUpTo_succ,aU hx];by_cases hk:Lib.keeps L.toArray m=true
  ·rw[if_pos hk,hg m (by omega)];refine⟨List.pairwise_append.2 ⟨h1,by simp,fun z hz y hy=> ?_⟩,fun z=>by rw[List.mem_append,h2,List.mem_append]⟩;obtain rfl:y=L[m]:=by simpa using hy
   have hz2:=(h2 z).1 hz;obtain⟨j,hj⟩:=List.getElem?_of_mem hz2;have hjm:j<m:=by have:=aS hj;simp at this;omega
   rw[List.getElem?_take,if_pos hjm,List.getElem?_eq_getElem (by omega)]at hj;obtain rfl:=Option.some.inj hj;simp only[Lib.keeps,decide_eq_true_eq]at hk
   have hne:L[m-1]≠L[m]:=by
    rcases hk with hk|hk
    ·omega
    ·rw[hg m (by omega),hg (m-1) (by omega)]at hk;exact fun e=>hk e.symm
   have hlast:ltL L[m-1] L[m]=true:=by
    rcases wL L[m-1] L[m]with h3|h3|h3
    ·exact h3
    ·exact absurd h3 hne
    ·rw[hs (m-1) m (by omega) (by omega)]at h3;cases h3
   by_cases hj1:j=m-1
   ·subst hj1;exact hlast
   ·rcases wL L[j] L[m-1]with h3|h3|h3
    ·exact qW h3 hlast
    ·rw[h3];exact hlast
    ·rw[hs j (m-1) (by omega) (by omega)]at h3;cases h3
  ·rw[if_neg hk,List.append_nil];refine⟨h1,fun z=> ?_⟩;rw[h2,List.mem_append];simp only[Lib.keeps,decide_eq_true_eq,not_or,Decidable.not_not]at hk;rw[hg m (by omega),hg (m-1) (by omega)]at hk;constructor
   ·exact .inl
   ·rintro(h3|h3)
    ·exact h3
    ·obtain rfl:z=L[m]:=by simpa using h3
     rw[hk.2];exact List.mem_of_getElem? (i:=m-1) (by rw[List.getElem?_take,if_pos (by omega)];exact List.getElem?_eq_getElem _)
def kS (l:List Str):List Str:=l.mergeSort fun x y=>decide (x<=y)
def rF (l:List Str):List Str:=Lib.compact (kS l)
theorem lG (l:List Str):(kS l).length=l.length:=by simp[kS]
theorem UH (l:List Str):Asc (rF l)/\∀z,z∈rF l↔z∈l:=by
 have hp:(kS l).Pairwise fun x y=>decide (x<=y)=true:=by
  refine List.pairwise_mergeSort (fun a b c h1 h2=> ?_) (fun a b=> ?_) l
  ·rw[leS]at h1 h2|-
   simp only[Bool.not_eq_true']at h1 h2|-
   rcases wL a b with h3|h3|h3
   ·cases hca:ltL c a with
    |false=>rfl
    |true=>rw[qW hca h3]at h2;cases h2
   ·rw[h3];exact h2
   ·rw[h3]at h1;cases h1
  ·rw[leS,leS];rcases wL a b with h3|h3|h3
   ·rw[tF h3];rfl
   ·rw[h3,dV];rfl
   ·rw[tF h3];simp
 have hs:∀i j (hi:i<j) (hj:j<(kS l).length),ltL ((kS l)[j]'hj) ((kS l)[i]'(by omega))=false:=fun i j hi hj=>by
  have:=List.pairwise_iff_getElem.1 hp i j (by omega) hj hi;rw[leS]at this;simpa using this
 obtain⟨h1,h2⟩:=WO hs (kS l).length (Nat.le_refl _);refine⟨h1,fun z=> ?_⟩;rw[rF,Lib.compact,h2,List.take_length,kS,List.mem_mergeSort]
theorem acA {l:List Str}(h:Asc l):kS l=l:=by
 refine List.mergeSort_of_pairwise (h.imp fun{a b} hab=> ?_);rw[leS,tF hab];rfl
theorem XA {l r:List Str}(hr:Asc r)(h:∀z,z∈r↔z∈l):rF l=r:=(UH l).1.unique hr fun z=>by rw[(UH l).2,h]
theorem HV (l:List Str):(rF l).length<=l.length:=by
 have h:∀m≤(kS l).length,(Lib.compactUpTo (kS l).toArray m).length<=m:=by
  intro m hm
  induction m with
  |zero=>simp[Lib.compactUpTo]
  |succ m ih=>
   rw[Lib.compactUpTo_succ,List.length_append];have:=ih (by omega);split<;>simp<;>omega
 exact Nat.le_trans (h (kS l).length (Nat.le_refl _)) (Nat.le_of_eq (lG l))
theorem KY (s:Str):rF (CJ (normal s))=tokens s:=XA (M5 s).1 fun z=>by rw[(M5 s).2,CJ,List.mem_filter,decide_eq_true_eq]
def ahF (l:List Str):List Str:=(l.map dG).filter fun x=>decide (x≠[])
theorem ahO (s:Str):rF (ahF (tokens s))=fP s:=XA (KN s).1 fun z=>by
 rw[(KN s).2,ahF,List.mem_filter,List.mem_map,decide_eq_true_eq];constructor
 ·rintro⟨t,h1,h2,rfl⟩;exact⟨⟨t,h1,rfl⟩,h2⟩
 ·rintro⟨⟨t,h1,rfl⟩,h2⟩;exact⟨t,h1,h2,rfl⟩
theorem K3:∀(a b:Str),shared a b=b.length↔b.isPrefixOf a=true
 |[],[]=>by simp[shared]
 |[],b::y=>by simp[shared,List.isPrefixOf]
 |a::x,[]=>by simp[shared,List.isPrefixOf]
 |a::x,b::y=>by
  have:=K3 x y;rw[shared,List.isPrefixOf];by_cases h:a=b
  ·subst h;simp[this]
  ·have h2:(b==a)=false:=by simp;exact fun e=>h e.symm
   rw[if_neg h,h2];simp
theorem ab8:∀(a b:Str),(shared a b=a.length/\shared a b=b.length)↔a=b
 |[],[]=>by simp[shared]
 |[],b::y=>by simp[shared]
 |a::x,[]=>by simp[shared]
 |a::x,b::y=>by
  have:=ab8 x y;rw[shared];by_cases h:a=b
  ·subst h;simp[this]
  ·rw[if_neg h];simp[h]
theorem aiW (p q:Str):yV p q=if p.length<4\/q.length<4\/shared p.reverse q.reverse<4 then 0 else if p=q then 1000 else if shared p.reverse q.reverse>=7\/q.isSuffixOf p=true\/p.isSuffixOf q=true then 800 else 400:=by
 have h1:=ab8 p.reverse q.reverse;have h2:=K3 p.reverse q.reverse;have h3:=K3 q.reverse p.reverse;rw[IC q.reverse]at h3;simp only[List.length_reverse,List.reverse_inj]at h1 h2 h3;unfold yV List.isSuffixOf;simp only[←h2,←h3,h1];have e:(shared p.reverse q.reverse>=7\/shared p.reverse q.reverse=p.length\/shared p.reverse q.reverse=q.length)↔(shared p.reverse q.reverse>=7\/shared p.reverse q.reverse=q.length\/shared p.reverse q.reverse=p.length):=by omega
 simp only[e]
def UB (E:Int->Int->Prop)(v:Ver):Int->Int->Prop:=fun x y=>E x y\/(E x v.a/\E y v.b)\/(E x v.b/\E y v.a)
def jT (m n:Int)(z:Int):Int:=if z=max m n then min m n else z
def mK (o:L1)(v:Ver):L1:=if v.same then o.map (jT (at1 o v.a.toNat) (at1 o v.b.toNat))else o
def rY:L1:=(List.range 400).map fun(i:Nat)=>(i:Int)
def dX (l:List Ver):L1:=l.foldl mK rY
def inT (x:Int):Prop:=0<=x/\x<400
structure G9 (E:Int->Int->Prop) (o:L1):Prop where
 len:o.length=400
 rng:∀i<400,0<=at1 o i/\at1 o i<400
 eq:∀x y,inT x->inT y->(at1 o x.toNat=at1 o y.toNat↔E x y)
theorem XI {f:Int->Int}(h:i<o.length):at1 (o.map f) i=f (at1 o i):=by
 have:=aD h;simp only[at1,List.getD_eq_getElem?_getD,List.getElem?_map];rw[List.getElem?_eq_getElem h];rfl
theorem G9.step {E:Int->Int->Prop}{o:L1}(h:G9 E o){v:Ver}(ha:inT v.a)(hb:inT v.b)(hs:v.same=true):G9 (UB E v) (mK o v):=by
 have hst:mK o v=o.map (jT (at1 o v.a.toNat) (at1 o v.b.toNat)):=if_pos hs;have r1:=h.rng v.a.toNat (by unfold inT at ha;omega);have r2:=h.rng v.b.toNat (by unfold inT at hb;omega);rw[hst];refine⟨by rw[List.length_map];exact h.len,fun i hi=> ?_,fun x y hx hy=> ?_⟩
 ·rw[XI (by rw[h.len];exact hi)];have:=h.rng i hi;unfold jT;split<;>omega
 ·unfold UB;rw[XI (by rw[h.len];unfold inT at hx;omega),XI (by rw[h.len];unfold inT at hy;omega),←h.eq x y hx hy,←h.eq x v.a hx ha,←h.eq y v.b hy hb,←h.eq x v.b hx hb,←h.eq y v.a hy ha];generalize at1 o x.toNat=X;generalize at1 o y.toNat=Y;generalize at1 o v.a.toNat=A;generalize at1 o v.b.toNat=B;unfold jT;split<;>split<;>omega
theorem G9.fold:∀(l:List Ver) {E:Int->Int->Prop}{o:L1},G9 E o->(∀v∈l,inT v.a/\inT v.b)->G9 ((l.filter fun v=>v.same).foldl UB E) (l.foldl mK o)
 |[],_,_,h,_=>h
 |v::l,E,o,h,hv=>by
  have h1:=hv v (by simp);have h2:=fun w hw=>hv w (List.mem_cons_of_mem v hw);rw[List.foldl_cons,List.filter_cons];cases hs:v.same with
  |true=>rw[if_pos rfl,List.foldl_cons];exact G9.fold l (h.step h1.1 h1.2 hs) h2
  |false=>
   rw[if_neg (by simp)];have:mK o v=o:=if_neg (by simp[hs]);rw[this];exact G9.fold l h h2
theorem arP:G9 (fun x y=>x=y) rY:=by
 have h0:∀i<400,at1 rY i=i:=fun i hi=>by simp[at1,rY,List.getD_eq_getElem?_getD,hi]
 refine⟨by simp[rY],fun i hi=>by rw[h0 i hi];omega,fun x y hx hy=> ?_⟩;unfold inT at hx hy;rw[h0 _ (by omega),h0 _ (by omega)];omega
theorem ax7 {l:List Ver}(hv:∀v∈l,inT v.a/\inT v.b):G9 ((mM l).foldl UB fun x y=>x=y) (dX l):=G9.fold l arP hv
abbrev Dj (g:L2):Prop:=g.Pairwise fun r r'=>∀u∈r,u∉r'
def arM (g:L2)(x y:Int):Prop:=∃r∈g,x∈r/\y∈r
def eqG (g:L2)(x y:Int):Prop:=x=y\/arM g x y
theorem acW {x:Int}:grp x r=true↔x∈r:=by simp[grp]
variable {g:L2}
theorem nW {x:Int}(h:0<=bA g x):g[(bA g x).toNat]?=some (gat g (bA g x).toNat)/\x∈gat g (bA g x).toNat:=by
 unfold bA ix at h|-
 cases hf:g.findIdx? (grp x)with
 |none=>rw[hf]at h;simp at h
 |some i=>
  obtain⟨h1,h2,_⟩:=List.findIdx?_eq_some_iff_getElem.1 hf;simp only[Int.toNat_natCast];have h3:g[i]?=some g[i]:=List.getElem?_eq_getElem h1;rw[sJ h3];exact⟨h3,acW.1 h2⟩
theorem MU {x:Int}(h:¬0<=bA g x)(hr:r∈g):x∉r:=fun hx=>h (dK.2 (List.any_eq_true.2 ⟨r,hr,acW.2 hx⟩))
variable {r':L1}{u:Int}
theorem Dj.uniq (h:Dj g)(hi:g[i]?=some r)(hj:g[j]?=some r')(hu:u∈r)(hu':u∈r'):i=j:=by
 have l1:=aS hi;have l2:=aS hj;rw[List.getElem?_eq_getElem l1]at hi;rw[List.getElem?_eq_getElem l2]at hj;obtain rfl:=Option.some.inj hi;obtain rfl:=Option.some.inj hj;have hp:=List.pairwise_iff_getElem.1 h;rcases Nat.lt_trichotomy i j with h1|h1|h1
 ·exact absurd hu' (hp i j l1 l2 h1 u hu)
 ·exact h1
 ·exact absurd hu (hp j i l2 l1 h1 u hu')
theorem Dj.one (h:Dj g)(hr:r∈g)(hr':r'∈g)(hu:u∈r)(hu':u∈r'):r=r':=by
 obtain⟨i,hi⟩:=List.getElem?_of_mem hr;obtain⟨j,hj⟩:=List.getElem?_of_mem hr';obtain rfl:=h.uniq hi hj hu hu';rw[hi]at hj;exact Option.some.inj hj
theorem aiA (h:Dj g){x:Int}(hi:g[i]?=some r)(hx:x∈r):bA g x=i:=by
 have h0:0<=bA g x:=dK.2 (List.any_eq_true.2 ⟨r,List.mem_of_getElem? hi,acW.2 hx⟩);obtain⟨h1,h2⟩:=nW h0;have:=h.uniq h1 hi h2 hx;omega
theorem same_iff (h:Dj g){x y:Int}:(0<=bA g x/\bA g x=bA g y)↔arM g x y:=by
 constructor
 ·rintro⟨h1,h2⟩;obtain⟨a1,a2⟩:=nW h1;obtain⟨b1,b2⟩:=nW (h2▸h1);rw[h2]at a1 a2;exact⟨_,List.mem_of_getElem? b1,a2,b2⟩
 ·rintro⟨r,hr,hx,hy⟩;obtain⟨i,hi⟩:=List.getElem?_of_mem hr;rw[aiA h hi hx,aiA h hi hy];omega
theorem YG {x y:Int}(h:eqG g x y):eqG g y x:=by
 rcases h with h|⟨r,hr,h1,h2⟩
 ·exact .inl h.symm
 ·exact .inr ⟨r,hr,h2,h1⟩
theorem tC (hd:Dj g){x y z:Int}(h:eqG g x y)(h':eqG g y z):eqG g x z:=by
 rcases h with rfl|⟨r,hr,h1,h2⟩
 ·exact h'
 ·rcases h' with rfl|⟨r',hr',h3,h4⟩
  ·exact .inr ⟨r,hr,h1,h2⟩
  ·obtain rfl:=hd.one hr hr' h2 h3;exact .inr ⟨r,hr,h1,h4⟩
theorem TY (g:L2)(a b:Int):pR g a b=((List.range g.length).filter fun(i:Nat)=>decide ((i:Int)≠a/\(i:Int)≠b)).map (gat g):=by
 have h:∀n,loopN n [] (fun(i:Nat) o=>if(i:Int)≠a/\(i:Int)≠b then o++[gat g i]else o)=((List.range n).filter fun(i:Nat)=>decide ((i:Int)≠a/\(i:Int)≠b)).map (gat g):=by
  intro n
  induction n with
  |zero=>rfl
  |succ n ih=>
   rw[aA,ih,List.range_succ,List.filter_append,List.map_append];by_cases hc:(n:Int)≠a/\(n:Int)≠b
   ·rw[if_pos hc];simp[hc]
   ·rw[if_neg hc];simp only[not_and,Decidable.not_not]at hc;simp;exact hc
 exact h g.length
theorem XN {a b:Int}:r∈pR g a b↔∃i:Nat,g[i]?=some r/\(i:Int)≠a/\(i:Int)≠b:=by
 rw[TY,List.mem_map];constructor
 ·rintro⟨i,hi,rfl⟩;rw[List.mem_filter,List.mem_range,decide_eq_true_eq]at hi;obtain⟨c,hc⟩:=aC hi.1;exact⟨i,by rw[sJ hc];exact hc,hi.2⟩
 ·rintro⟨i,hi,h⟩;exact⟨i,by rw[List.mem_filter,List.mem_range,decide_eq_true_eq];exact⟨aS hi,h⟩,sJ hi⟩
theorem azU (h:Dj g)(a b:Int):Dj (pR g a b):=by
 rw[TY];refine List.pairwise_map.2 ((List.pairwise_lt_range.filter _).imp_of_mem fun{i j} hi hj hlt u hu hu'=> ?_);rw[List.mem_filter,List.mem_range]at hi hj;obtain⟨c,hc⟩:=aC hi.1;obtain⟨d,hd⟩:=aC hj.1;rw[sJ hc]at hu;rw[sJ hd]at hu';have:=h.uniq hc hd hu hu';omega
def ZT (g:L2)(x:Int):L1:=if 0<=bA g x then gat g (bA g x).toNat else[x]
theorem GN (h:Dj g){x:Int}:u∈ZT g x↔eqG g u x:=by
 unfold ZT;split
 ·next h0=>
  obtain⟨h1,h2⟩:=nW h0;constructor
  ·exact fun hu=> .inr ⟨_,List.mem_of_getElem? h1,hu,h2⟩
  ·rintro(rfl|⟨r,hr,hu,hx⟩)
   ·exact h2
   ·rw[←h.one hr (List.mem_of_getElem? h1) hx h2];exact hu
 ·next h0=>
  constructor
  ·intro hu;exact .inl (by simpa using hu)
  ·rintro(rfl|⟨r,hr,hu,hx⟩)
   ·simp
   ·exact absurd hx (MU h0 hr)
theorem ar8 (g:L2)(x y:Int):jD g x y=pR g (bA g x) (bA g y)++[if 0<=bA g x/\bA g x=bA g y then ZT g x else ZT g x++ZT g y]:=by
 unfold jD ZT;split
 ·next h=>rw[if_pos h.1]
 ·rfl
theorem auF (h:Dj g)(v:Ver):Dj (jD g v.a v.b)/\∀u w,eqG (jD g v.a v.b) u w↔UB (eqG g) v u w:=by
 obtain⟨M,hM⟩:∃M,M=if 0<=bA g v.a/\bA g v.a=bA g v.b then ZT g v.a else ZT g v.a++ZT g v.b:=⟨_,rfl⟩
 have hj:=ar8 g v.a v.b;rw[←hM]at hj
 have hin:∀u,u∈M↔eqG g u v.a\/eqG g u v.b:=by
  intro u;rw[hM];split
  ·next hs=>
   rw[GN h];exact⟨.inl,fun hh=>hh.elim id fun h2=>tC h h2 (YG (.inr ((same_iff h).1 hs)))⟩
  ·rw[List.mem_append,GN h,GN h]
 have hrest:∀(i:Nat) (r:L1),g[i]?=some r->(((i:Int)≠bA g v.a/\(i:Int)≠bA g v.b)↔∀u∈r,u∉M)\/r=[]:=by
  intro i r hi;by_cases hr:r=[]
  ·exact .inr hr
  ·left;constructor
   ·rintro⟨h1,h2⟩ u hu hm;rcases(hin u).1 hm with h3|h3
    ·have:=(GN h).2 h3;unfold ZT at this;split at this
     ·next h0=>obtain⟨k1,_⟩:=nW h0;have:=h.uniq hi k1 hu this;omega
     ·next h0=>obtain rfl:u=v.a:=by simpa using this
               exact MU h0 (List.mem_of_getElem? hi) hu
    ·have:=(GN h).2 h3;unfold ZT at this;split at this
     ·next h0=>obtain⟨k1,_⟩:=nW h0;have:=h.uniq hi k1 hu this;omega
     ·next h0=>obtain rfl:u=v.b:=by simpa using this
               exact MU h0 (List.mem_of_getElem? hi) hu
   ·intro hall;constructor
    ·intro e;have h0:0<=bA g v.a:=by omega
     obtain⟨k1,k2⟩:=nW h0;rw[←e,Int.toNat_natCast,hi]at k1;rw[←e,Int.toNat_natCast,←Option.some.inj k1]at k2;exact hall _ k2 ((hin _).2 (.inl (.inl rfl)))
    ·intro e;have h0:0<=bA g v.b:=by omega
     obtain⟨k1,k2⟩:=nW h0;rw[←e,Int.toNat_natCast,hi]at k1;rw[←e,Int.toNat_natCast,←Option.some.inj k1]at k2;exact hall _ k2 ((hin _).2 (.inr (.inl rfl)))
 have hdis:∀r∈pR g (bA g v.a) (bA g v.b),∀u∈r,u∉M:=by
  intro r hr u hu;obtain⟨i,hi,h1⟩:=XN.1 hr;rcases hrest i r hi with h2|rfl
  ·exact h2.1 h1 u hu
  ·simp at hu
 refine⟨?_,fun u w=> ?_⟩
 ·rw[hj];refine List.pairwise_append.2 ⟨azU h _ _,by simp,fun r hr m hm=> ?_⟩;obtain rfl:m=M:=by simpa using hm
  exact hdis r hr
 ·constructor
  ·rintro(rfl|⟨r,hr,hu,hw⟩)
   ·exact .inl (.inl rfl)
   ·rw[hj,List.mem_append]at hr;rcases hr with hr|hr
    ·obtain⟨i,hi,_⟩:=XN.1 hr;exact .inl (.inr ⟨r,List.mem_of_getElem? hi,hu,hw⟩)
    ·obtain rfl:r=M:=by simpa using hr
     rcases(hin u).1 hu with h1|h1<;>rcases(hin w).1 hw with h2|h2
     ·exact .inl (tC h h1 (YG h2))
     ·exact .inr (.inl ⟨h1,h2⟩)
     ·exact .inr (.inr ⟨h1,h2⟩)
     ·exact .inl (tC h h1 (YG h2))
  ·have hm:∀{u w},u∈M->w∈M->eqG (jD g v.a v.b) u w:=fun hu hw=> .inr ⟨M,by rw[hj];simp,hu,hw⟩;rintro(h1|⟨h1,h2⟩|⟨h1,h2⟩)
   ·rcases h1 with rfl|⟨r,hr,hu,hw⟩
    ·exact .inl rfl
    ·by_cases hx:u∈M
     ·refine hm hx ((hin w).2 ?_);have hwu:eqG g w u:= .inr ⟨r,hr,hw,hu⟩;exact((hin u).1 hx).imp (tC h hwu) (tC h hwu)
     ·obtain⟨i,hi⟩:=List.getElem?_of_mem hr;rcases hrest i r hi with h2|rfl
      ·refine .inr ⟨r,?_,hu,hw⟩;rw[hj,List.mem_append];refine .inl (XN.2 ⟨i,hi,h2.2 fun z hz hzM=>hx ((hin u).2 ?_)⟩);have huz:eqG g u z:= .inr ⟨r,hr,hu,hz⟩;exact((hin z).1 hzM).imp (tC h huz) (tC h huz)
      ·simp at hu
   ·exact hm ((hin u).2 (.inl h1)) ((hin w).2 (.inr h2))
   ·exact hm ((hin u).2 (.inr h1)) ((hin w).2 (.inl h2))
def qJ (l:List Ver):L2:=l.foldl (fun g v=>jD g v.a v.b) []
theorem QV:∀(l:List Ver) {g:L2}{E:Int->Int->Prop},Dj g->(∀u w,eqG g u w↔E u w)->Dj (l.foldl (fun g v=>jD g v.a v.b) g)/\∀u w,eqG (l.foldl (fun g v=>jD g v.a v.b) g) u w↔l.foldl UB E u w
 |[],_,_,h,he=>⟨h,he⟩
 |v::l,g,E,h,he=>by
  obtain⟨h1,h2⟩:=auF h v;refine QV l h1 fun u w=> ?_;rw[h2];unfold UB;simp only[he]
theorem WM (l:List Ver):Dj (qJ l)/\∀u w,eqG (qJ l) u w↔l.foldl UB (fun x y=>x=y) u w:=QV l (by simp) fun u w=>by simp[eqG,arM]
variable {ms:List Ver}
theorem ag6 {l:List Ver}(hv:∀v∈l,inT v.a/\inT v.b)(hm:mM l=ms){x y:Int}(hx:inT x)(hy:inT y)(hne:x≠y):at1 (dX l) x.toNat=at1 (dX l) y.toNat↔(0<=bA (qJ ms) x/\bA (qJ ms) x=bA (qJ ms) y):=by
 rw[(ax7 hv).eq x y hx hy,hm,←(WM ms).2,same_iff (WM ms).1];exact⟨fun h=>h.resolve_left hne,.inr⟩
theorem JG {x y:Int}(h:x<y):cmpI x y= -1:=if_pos h
theorem JI {x y:Int}(h:y<x):cmpI x y=1:=by unfold cmpI;rw[if_neg (by omega),if_pos h]
theorem nX (x:Int):cmpI x x=0:=by unfold cmpI;rw[if_neg (by omega),if_neg (by omega)]
theorem I9 (u w:Ver):bP u w<=0↔(u.a<w.a\/u.a=w.a/\(u.b<w.b\/u.b=w.b/\(u.time<w.time\/u.time=w.time/\(u.same=true->w.same=true)))):=by
 unfold bP;rcases Int.lt_trichotomy u.a w.a with h1|h1|h1
 ·rw[JG h1];simp[h1]
 ·rw[h1,nX];rcases Int.lt_trichotomy u.b w.b with h2|h2|h2
  ·rw[JG h2];simp[h2]
  ·rw[h2,nX];rcases Int.lt_trichotomy u.time w.time with h3|h3|h3
   ·rw[JG h3];simp[h3]
   ·rw[h3,nX];cases u.same<;>cases w.same<;>simp
   ·rw[JI h3];simp;omega
  ·rw[JI h2];simp;omega
 ·rw[JI h1];simp;omega
theorem IY (u w:Ver):bP u w<0↔¬bP w u<=0:=by
 rw[I9];have h:=I9 u w
 have h0:bP u w=0->u=w:=by
  unfold bP;rcases Int.lt_trichotomy u.a w.a with h1|h1|h1
  ·rw[JG h1];simp
  ·rw[h1,nX];rcases Int.lt_trichotomy u.b w.b with h2|h2|h2
   ·rw[JG h2];simp
   ·rw[h2,nX];rcases Int.lt_trichotomy u.time w.time with h3|h3|h3
    ·rw[JG h3];simp
    ·rw[h3,nX];intro h4
     have h5:u.same=w.same:=by
      cases hu:u.same<;>cases hw:w.same<;>simp[hu,hw]at h4|-
     cases u;cases w;simp_all
    ·rw[JI h3];simp
   ·rw[JI h2];simp
  ·rw[JI h1];simp
 constructor
 ·intro hlt hle;have h1:=h.1 (by omega)
  have:u.same=w.same:=by
   have e1:u.a=w.a:=by omega
   have e2:u.b=w.b:=by omega
   have e3:u.time=w.time:=by omega
   have a1:u.same=true->w.same=true:=by
    rcases h1 with h1|⟨_,h1|⟨_,h1|⟨_,h1⟩⟩⟩
    ·omega
    ·omega
    ·omega
    ·exact h1
   have a2:w.same=true->u.same=true:=by
    rcases hle with h1|⟨_,h1|⟨_,h1|⟨_,h1⟩⟩⟩
    ·omega
    ·omega
    ·omega
    ·exact h1
   cases hu:u.same<;>cases hw:w.same<;>simp_all
  have e1:u.a=w.a:=by omega
  have e2:u.b=w.b:=by omega
  have e3:u.time=w.time:=by omega
  have:bP u w=0:=by
   unfold bP;rw[e1,e2,e3,this,nX,nX,nX];simp
  omega
 ·intro hn
  have hle:bP u w<=0:=by
   rw[h];rcases Int.lt_trichotomy u.a w.a with h1|h1|h1
   ·exact .inl h1
   ·refine .inr ⟨h1,?_⟩;rcases Int.lt_trichotomy u.b w.b with h2|h2|h2
    ·exact .inl h2
    ·refine .inr ⟨h2,?_⟩;rcases Int.lt_trichotomy u.time w.time with h3|h3|h3
     ·exact .inl h3
     ·refine .inr ⟨h3,fun hu=> ?_⟩;cases hw:w.same with
      |true=>rfl
      |false=>exact absurd (.inr ⟨h1.symm,.inr ⟨h2.symm,.inr ⟨h3.symm,fun e=>by rw[hw]at e;cases e⟩⟩⟩) hn
     ·exact absurd (.inr ⟨h1.symm,.inr ⟨h2.symm,.inl h3⟩⟩) hn
    ·exact absurd (.inr ⟨h1.symm,.inl h2⟩) hn
   ·exact absurd (.inl h1) hn
  have:bP u w≠0:=by
   intro e;have:=h0 e;subst this;exact hn (.inr ⟨rfl,.inr ⟨rfl,.inr ⟨rfl,id⟩⟩⟩)
  omega
theorem Y6 {u v w:Ver}(h1:bP u v<=0)(h2:bP v w<=0):bP u w<=0:=by
 rw[I9]at*
 rcases h1 with h1|⟨h1,h1'|⟨h1',h1''|⟨h1'',h1s⟩⟩⟩<;>rcases h2 with h2|⟨h2,h2'|⟨h2',h2''|⟨h2'',h2s⟩⟩⟩
 all_goals first
  |(left;omega)
  |(right;refine⟨by omega,?_⟩;left;omega)
  |(right;refine⟨by omega,?_⟩;right;refine⟨by omega,?_⟩;left;omega)
  |(right;refine⟨by omega,?_⟩;right;refine⟨by omega,?_⟩;right;exact⟨by omega,fun e=>h2s (h1s e)⟩)
theorem abR {u w:Ver}(h1:bP u w<=0)(h2:bP w u<=0):u=w:=by
 have h3:=(I9 u w).1 h1;have h4:=(I9 w u).1 h2;have e1:u.a=w.a:=by omega
 have e2:u.b=w.b:=by omega
 have e3:u.time=w.time:=by omega
 have e4:u.same=w.same:=by
  have a1:u.same=true->w.same=true:=by
   rcases h3 with h1|⟨_,h1|⟨_,h1|⟨_,h1⟩⟩⟩<;>first|omega|exact h1
  have a2:w.same=true->u.same=true:=by
   rcases h4 with h1|⟨_,h1|⟨_,h1|⟨_,h1⟩⟩⟩<;>first|omega|exact h1
  cases hu:u.same<;>cases hw:w.same<;>simp_all
 cases u;cases w;simp_all
theorem adH {α:Type}(p:α->Bool)(l:List α)(v:α):(dW p l v).Perm (v::l):=by
 unfold dW;rw[List.append_assoc,List.singleton_append];refine List.perm_middle.trans ?_;rw[List.take_append_drop]
theorem rU {α:Type}(p:α->α->Bool):∀(l t:List α),(l.foldl (fun out v=>dW (p v) out v) t).Perm (t++l)
 |[],t=>by simp
 |x::l,t=>by
  rw[List.foldl_cons];refine(rU p l _).trans ?_;refine((adH (p x) t x).append_right l).trans ?_;rw[List.cons_append];exact List.perm_middle.symm
theorem wG (l:List Ver):(bV l).Perm l:=by have:=rU kY l [];rwa [List.nil_append]at this
theorem zN (l:List Ver):(lZ l).Perm l:=by have:=rU uK l [];rwa [List.nil_append]at this
abbrev CX (l:List Ver):Prop:=l.Pairwise fun a b=>bP a b<=0
theorem XT {α:Type}(p:α->Bool)(l:List α):(∀x∈l.drop (l.length-backs p l),p x=true)/\∀c,(l.take (l.length-backs p l)).getLast?=some c->p c=false:=by
 have hb:=afR p l
 have h1:l.drop (l.length-backs p l)=(l.reverse.takeWhile p).reverse:=by
  have:l.reverse.take (backs p l)=l.reverse.takeWhile p:=by
   have hp:=List.takeWhile_prefix (p:=p) (l:=l.reverse);unfold backs;exact(List.prefix_iff_eq_take.1 hp).symm
  rw[←this,List.reverse_take];simp
 have h2:l.take (l.length-backs p l)=(l.reverse.dropWhile p).reverse:=by
  have h3:l=(l.reverse.dropWhile p).reverse++(l.reverse.takeWhile p).reverse:=by
   rw[←List.reverse_append,List.takeWhile_append_dropWhile,List.reverse_reverse]
  have h4:=List.take_append_drop (l.length-backs p l) l;rw[h1]at h4;exact List.append_cancel_right (h4.trans h3)
 refine⟨fun x hx=> ?_,fun c hc=> ?_⟩
 ·rw[h1,List.mem_reverse]at hx;exact List.all_eq_true.1 List.all_takeWhile x hx
 ·rw[h2,List.getLast?_reverse]at hc;have:=List.head?_dropWhile_not p l.reverse;rw[hc]at this;simpa using this
theorem ZW {l:List Ver}(h:CX l)(v:Ver):CX (dW (kY v) l v):=by
 obtain⟨h1,h2⟩:=XT (kY v) l;unfold dW;generalize l.length-backs (kY v) l=k at h1 h2|-
 have hl:∀x∈l.take k,bP x v<=0:=by
  intro x hx
  obtain⟨c,hc⟩:∃c,(l.take k).getLast?=some c:=by
   cases hg:(l.take k).getLast? with
   |some c=>exact⟨c,rfl⟩
   |none=>rw[List.getLast?_eq_none_iff]at hg;rw[hg]at hx;cases hx
  have h3:=h2 c hc;simp only[kY,decide_eq_false_iff_not]at h3;obtain⟨t,ht⟩:=List.getLast?_eq_some_iff.1 hc;have hs:CX (l.take k):=h.sublist (List.take_sublist _ _);rw[ht]at hx hs;rcases List.mem_append.1 hx with hx|hx
  ·exact Y6 ((List.pairwise_append.1 hs).2.2 x hx c (by simp)) (by omega)
  ·obtain rfl:x=c:=by simpa using hx
   omega
 have hr:∀x∈l.drop k,bP v x<=0:=by
  intro x hx;have h3:=h1 x hx;simp only[kY,decide_eq_true_eq]at h3;have:=(IY v x).2 (by omega);omega
 rw[List.append_assoc,List.singleton_append];have hs:=h;rw[←List.take_append_drop k l]at hs;obtain⟨a1,a2,a3⟩:=List.pairwise_append.1 hs;refine List.pairwise_append.2 ⟨a1,List.pairwise_cons.2 ⟨hr,a2⟩,fun x hx y hy=> ?_⟩;rcases List.mem_cons.1 hy with rfl|hy
 ·exact hl x hx
 ·exact a3 x hx y hy
theorem wW (l:List Ver):CX (bV l):=by
 have key:∀(l t:List Ver),CX t->CX (l.foldl (fun out v=>dW (kY v) out v) t):=by
  intro l
  induction l with
  |nil=>exact fun t h=>h
  |cons v l ih=>exact fun t h=>ih _ (ZW h v)
 exact key l [] List.Pairwise.nil
theorem ajZ {a b:List Ver}(h:a.Perm b):bV a=bV b:=
 List.Perm.eq_of_pairwise (le:=fun u w=>bP u w<=0) (fun u w _ _=>abR) (wW a) (wW b) ((wG a).trans (h.trans (wG b).symm))
theorem ai5 {α:Type}{R:α->α->Bool}(ht:∀a b c,R a b=true->R b c=true->R a c=true):∀{l:List α},adj R l=true->l.Pairwise fun a b=>R a b=true
 |[],_=>List.Pairwise.nil
 |[a],_=>by simp
 |a::b::l,h=>by
  simp only[adj,Bool.and_eq_true]at h;have ih:=ai5 ht h.2;refine List.pairwise_cons.2 ⟨fun c hc=> ?_,ih⟩;rcases List.mem_cons.1 hc with rfl|hc
  ·exact h.1
  ·exact ht _ _ _ h.1 ((List.pairwise_cons.1 ih).1 c hc)
theorem aAR {α:Type}{R:α->α->Bool}{l:List α}(h:l.Pairwise fun a b=>R a b=true):adj R l=true:=by
 rw[VS];intro i a b ha hb;have l1:=aS ha;have l2:=aS hb;rw[List.getElem?_eq_getElem l1]at ha;rw[List.getElem?_eq_getElem l2]at hb;rw[←Option.some.inj ha,←Option.some.inj hb];exact List.pairwise_iff_getElem.1 h i (i+1) l1 l2 (by omega)
theorem EC {l:List Ver}(h:eO l=true):(∀v∈l,bH v=true)/\(l.Pairwise fun a b=>bP a b<0)/\l.length<=8:=by
 simp only[eO,Bool.and_eq_true,decide_eq_true_eq,List.all_eq_true]at h;refine⟨h.1.1,?_,h.2⟩
 have:=ai5 (R:=fun a b=>decide (bP a b<0)) (fun a b c h1 h2=>by
  simp only[decide_eq_true_eq]at h1 h2|-
  rw[IY]at h1 h2|-
  intro h3;have h4:bP b c<=0:=by have:=(IY b c).2 h2;omega
  exact h1 (Y6 h4 h3)) h.1.2
 exact this.imp fun h=>by simpa using h
theorem jZ {v:Ver}(h:bH v=true):inT v.a/\inT v.b/\v.a<v.b:=by
 simp only[bH,Bool.and_eq_true,decide_eq_true_eq]at h;unfold inT;omega
theorem alD {l:List Ver}(h1:∀v∈l,bH v=true)(h2:CX l)(h3:l.Nodup)(h4:l.length<=8):eO l=true:=by
 simp only[eO,Bool.and_eq_true,decide_eq_true_eq,List.all_eq_true];refine⟨⟨h1,aAR ?_⟩,h4⟩;refine(h2.and h3).imp fun{u w} ⟨a,b⟩=> ?_;simp only[decide_eq_true_eq];rw[IY];exact fun hh=>b (abR a hh)
def ltK (u w:Ver):Prop:=u.a<w.a\/u.a=w.a/\u.b<w.b
structure aCY (l:List Ver) (i:Nat) (o:List Ver):Prop where
 sub:∀u∈o,u∈l.take i
 asc:o.Pairwise ltK
 top:∀p,o[o.length-1]?=some p->∀w∈l.take i,¬ltK p w
theorem az7 {l:List Ver}(h:eO l=true):∀i≤l.length,aCY l i ((l.take i).foldl kD [])
 |0,_=>⟨by simp,by simp,by simp⟩
 |i+1,hi=>by
  have ih:=az7 h i (by omega);obtain⟨c,hc⟩:=aC (l:=l) (i:=i) (by omega)
  have hle:∀w∈l.take i,¬ltK c w:=by
   intro w hw hk;obtain⟨j,hj⟩:=List.getElem?_of_mem hw;have hjl:j<i:=by have:=aS hj;simp at this;omega
   rw[List.getElem?_take,if_pos hjl]at hj;have l1:=aS hc;have l2:=aS hj;rw[List.getElem?_eq_getElem l1]at hc;rw[List.getElem?_eq_getElem l2]at hj;have:=List.pairwise_iff_getElem.1 (EC h).2.1 j i l2 l1 hjl;rw[Option.some.inj hc,Option.some.inj hj]at this;have h5:=(I9 w c).1 (by omega);unfold ltK at hk;omega
  rw[bB kD [] hc];have hts:=aU hc;generalize(l.take i).foldl kD []=o at ih|-
  have hpush:(∀u∈o,ltK u c)->aCY l (i+1) (o++[c]):=by
   intro hu;refine⟨fun u hm=> ?_,List.pairwise_append.2 ⟨ih.asc,by simp,fun u hu' w hw=> ?_⟩,fun p hp w hw=> ?_⟩
   ·rw[hts,List.mem_append];rcases List.mem_append.1 hm with hm|hm
    ·exact .inl (ih.sub u hm)
    ·exact .inr hm
   ·obtain rfl:w=c:=by simpa using hw
    exact hu u hu'
   ·have:p=c:=by simpa using hp.symm
    subst this;rw[hts,List.mem_append]at hw;rcases hw with hw|hw
    ·exact hle w hw
    ·obtain rfl:w=p:=by simpa using hw
     unfold ltK;omega
  unfold kD;split
  ·next hn=>
   have ho:o=[]:=by
    rw[List.getElem?_eq_none_iff]at hn;exact List.length_eq_zero_iff.1 (by omega)
   subst ho;exact hpush (by simp)
  ·next u hu=>
   have hum:u∈o:=List.mem_of_getElem? hu;have hulen:=aS hu;have huc:=hle u (ih.sub u hum);split
   ·next hne=>
    refine hpush fun x hx=> ?_;have:=ih.top u hu x (ih.sub x hx);unfold ltK at*
    omega
   ·next hne=>
    have hk:u.a=c.a/\u.b=c.b:=by omega
    split
    ·refine⟨fun x hx=> ?_,?_,fun p hp w hw=> ?_⟩
     ·rw[hts,List.mem_append];rcases List.mem_or_eq_of_mem_set hx with hx|rfl
      ·exact .inl (ih.sub x hx)
      ·exact .inr (by simp)
     ·rw[List.pairwise_iff_getElem];intro a b ha hb hab;rw[List.length_set]at ha hb;have hp:=List.pairwise_iff_getElem.1 ih.asc a b ha hb hab;rw[List.getElem_set,List.getElem_set];have hul:o[o.length-1]=u:=by rw[List.getElem?_eq_getElem hulen]at hu;exact Option.some.inj hu
      rw[if_neg (by omega)];split
      ·next e=>
       subst e;rw[hul]at hp;unfold ltK at*
       omega
      ·exact hp
     ·rw[List.length_set,List.getElem?_set_self (by omega)]at hp;obtain rfl:=Option.some.inj hp;rw[hts,List.mem_append]at hw;rcases hw with hw|hw
      ·exact hle w hw
      ·obtain rfl:w=c:=by simpa using hw
       unfold ltK;omega
    ·refine⟨fun x hx=> ?_,ih.asc,fun p hp w hw=> ?_⟩
     ·rw[hts,List.mem_append];exact .inl (ih.sub x hx)
     ·rw[hts,List.mem_append]at hw;rcases hw with hw|hw
      ·exact ih.top p hp w hw
      ·obtain rfl:w=c:=by simpa using hw
       rw[hu]at hp;obtain rfl:=Option.some.inj hp;unfold ltK;omega
theorem akY {l:List Ver}(h:eO l=true):(∀v∈bQ l,bH v=true)/\(bQ l).Nodup:=by
 have hi:=az7 h l.length (Nat.le_refl _);rw[List.take_length]at hi;refine⟨fun v hv=>(EC h).1 v (by have:=hi.sub v hv;rwa [List.take_length]at this),hi.asc.imp fun{u w} hk e=> ?_⟩;subst e;unfold ltK at hk;omega
theorem YU (l:List Ver):(bQ l).length<=l.length:=by
 have:=wV kD (fun t x=>by
  unfold kD;split
  ·simp
  ·split
   ·simp
   ·split<;>simp) l []
 simpa[bQ]using this
def WZ (l:List Ver):Bool:=l.any fun v=> !v.same&&decide (at1 (dX l) v.a.toNat=at1 (dX l) v.b.toNat)
def xZ (st:List Ver×List Ver)(v:Ver):List Ver×List Ver:=if WZ (st.1++[v])=true then(st.1,st.2++[v])else(st.1++[v],st.2)
def X3 (l:List Ver):List Ver×List Ver:=(lZ (mM (bQ l))).foldl xZ (apart (bQ l),[])
variable {C:List Ver}
theorem anJ (hC:∀v∈C,v.same=false)(hm:∀v∈ms,v.same=true)(hv:∀v∈C++ms,bH v=true):WZ (C++ms)= !(C.all (tV (qJ ms))):=by
 have hs:mM (C++ms)=ms:=by
  unfold mM;rw[List.filter_append,List.filter_eq_nil_iff.2 (fun v h=>by simp[hC v h]),List.filter_eq_self.2 hm];rfl
 have hin:∀v∈C++ms,inT v.a/\inT v.b:=fun v h=>⟨(jZ (hv v h)).1,(jZ (hv v h)).2.1⟩;unfold WZ;generalize hL:C++ms=L at hs hin hv|-
 have h1:(L.any fun v=> !v.same&&decide (at1 (dX L) v.a.toNat=at1 (dX L) v.b.toNat))=C.any fun v=> !tV (qJ ms) v:=by
  rw[Bool.eq_iff_iff,List.any_eq_true,List.any_eq_true]
  have key:∀v∈L,(decide (at1 (dX L) v.a.toNat=at1 (dX L) v.b.toNat)=true↔(!tV (qJ ms) v)=true):=by
   intro v h;have hvv:=jZ (hv v h);rw[decide_eq_true_eq,ag6 hin hs hvv.1 hvv.2.1 (by omega)];simp[tV]
  constructor
  ·rintro⟨v,hm1,h2⟩;rw[Bool.and_eq_true]at h2;refine⟨v,?_,(key v hm1).1 h2.2⟩;rw[←hL]at hm1;rcases List.mem_append.1 hm1 with h3|h3
   ·exact h3
   ·rw[hm v h3]at h2;simp at h2
  ·rintro⟨v,hm1,h2⟩;have hm2:v∈L:=by rw[←hL];simp[hm1]
   exact⟨v,hm2,by rw[Bool.and_eq_true];exact⟨by rw[hC v hm1];rfl,(key v hm2).2 h2⟩⟩
 rw[h1,List.any_eq_not_all_not];simp
structure aEZ (cur C open':List Ver) (s:L2×List Ver×List Ver) (st:List Ver×List Ver) (ms:List Ver):Prop where
 kept:st.1=C++ms
 grp:s.1=qJ ms
 same:∀v∈ms,v.same=true
 perm:(st.1++st.2++open').Perm cur
 sort:bV s.2.1=bV st.1
 ref:s.2.2=st.2
theorem LC {cur:List Ver}(h8:cur.length<=8)(hval:∀v∈cur,bH v=true)(hnd:cur.Nodup)(hC:∀v∈C,v.same=false):∀(open':List Ver),(∀v∈open',v.same=true)->∀{s:L2×List Ver×List Ver}{st:List Ver×List Ver}{ms:List Ver},aEZ cur C open' s st ms->bV (open'.foldl (mQ C) s).2.1=bV (open'.foldl xZ st).1/\(open'.foldl (mQ C) s).2.2=(open'.foldl xZ st).2
 |[],_,s,st,ms,h=>⟨h.sort,h.ref⟩
 |v::rest,hsame,s,st,ms,h=>by
  rw[List.foldl_cons,List.foldl_cons];have hv:v.same=true:=hsame v (by simp)
  have hms:∀w∈ms++[v],w.same=true:=by
   intro w hw;rcases List.mem_append.1 hw with hw|hw
   ·exact h.same w hw
   ·obtain rfl:w=v:=by simpa using hw
    exact hv
  have hsub:∀w∈C++(ms++[v]),bH w=true:=by
   intro w hw;refine hval w (h.perm.mem_iff.1 ?_);rw[h.kept];simp only[List.mem_append,List.mem_cons,List.not_mem_nil,or_false]at hw|-
   rcases hw with hw|hw|hw
   ·exact .inl (.inl (.inl hw))
   ·exact .inl (.inl (.inr hw))
   ·exact .inr (.inl hw)
  have hcl:=anJ hC hms hsub;have hja:qJ (ms++[v])=jD s.1 v.a v.b:=by rw[h.grp,qJ,List.foldl_append];rfl
  rw[hja]at hcl;have hk1:st.1++[v]=C++(ms++[v]):=by rw[h.kept,List.append_assoc]
  by_cases hc:C.all (tV (jD s.1 v.a v.b))=true
  ·have e1:mQ C s v=(jD s.1 v.a v.b,qN (bV s.2.1) v,s.2.2):=if_pos hc;have e2:xZ st v=(st.1++[v],st.2):=if_neg (by rw[hk1,hcl,hc];simp);rw[e1,e2]
   have hp:(st.1++[v]++st.2++rest).Perm cur:=by
    refine List.Perm.trans ?_ h.perm;rw[List.append_assoc,List.append_assoc,List.append_assoc];refine List.Perm.append_left _ ?_;rw[List.singleton_append];exact List.perm_middle.symm
   refine LC h8 hval hnd hC rest (fun w hw=>hsame w (by simp[hw])) ⟨hk1,hja.symm,hms,hp,?_,h.ref⟩;have hS:(bV s.2.1).Perm st.1:=by rw[h.sort];exact wG _
   have hlen:=hp.length_eq;simp only[List.length_append,List.length_cons,List.length_nil]at hlen
   have hnd2:(st.1++[v]).Nodup:=by
    have:=hp.nodup_iff.2 hnd;rw[List.append_assoc]at this;exact(List.nodup_append.1 this).1
   have hmem:∀w∈bV s.2.1,bH w=true:=fun w hw=>hsub w (by rw[←hk1,List.mem_append];exact .inl (hS.mem_iff.1 hw))
   have hok:yJ (bV s.2.1) v=true:=by
    simp only[yJ,Bool.and_eq_true,Bool.not_eq_true',decide_eq_true_eq];refine⟨⟨⟨alD hmem (wW _) ?_ ?_,hsub v (by simp)⟩,?_⟩,?_⟩
    ·exact hS.nodup_iff.2 (List.nodup_append.1 hnd2).1
    ·rw[hS.length_eq];omega
    ·rw[List.any_eq_false];intro w hw;have hw2:=hS.mem_iff.1 hw;have:=(List.nodup_append.1 hnd2).2.2 w hw2 v (by simp);simpa using this
    ·rw[hS.length_eq];omega
   have hadd:qN (bV s.2.1) v=(bV s.2.1).take (YT (bV s.2.1) v)++[v]++(bV s.2.1).drop (YT (bV s.2.1) v):=if_pos hok;refine ajZ ?_;simp only;rw[hadd,List.append_assoc,List.singleton_append];refine List.perm_middle.trans ?_;rw[List.take_append_drop];refine(hS.cons v).trans ?_;have:=List.perm_append_comm (l₁:=[v]) (l₂:=st.1);simpa using this
  ·have e1:mQ C s v=(s.1,s.2.1,s.2.2++[v]):=if_neg hc;have e2:xZ st v=(st.1,st.2++[v]):=if_pos (by rw[hk1,hcl,(by simpa using hc:C.all (tV (jD s.1 v.a v.b))=false)];rfl);rw[e1,e2]
   have hp:(st.1++(st.2++[v])++rest).Perm cur:=by
    refine List.Perm.trans ?_ h.perm;simp[List.append_assoc]
   exact LC h8 hval hnd hC rest (fun w hw=>hsame w (by simp[hw])) ⟨h.kept,h.grp,h.same,hp,h.sort,by rw[h.ref]⟩
theorem Y8 {l:List Ver}(h:eO l=true):bV (X3 l).1=kP l/\bV (X3 l).2=dQ l:=by
 obtain⟨hval,hnd⟩:=akY h
 have h8:(bQ l).length<=8:=by
  have:=(EC h).2.2;have:=YU l;omega
 have hp:(apart (bQ l)++lZ (mM (bQ l))).Perm (bQ l):=by
  refine((zN _).append_left _).trans ?_;refine List.perm_append_comm.trans ?_;exact List.filter_append_perm (fun v:Ver=>v.same) (bQ l)
 have:=LC (cur:=bQ l) (C:=apart (bQ l)) h8 hval hnd (fun v hv=>by simpa using(List.mem_filter.1 hv).2) (lZ (mM (bQ l))) (fun v hv=>(List.mem_filter.1 ((zN _).mem_iff.1 hv)).2) (s:=([],apart (bQ l),[])) (st:=(apart (bQ l),[])) (ms:=[]) ⟨by simp,rfl,by simp,by simpa using hp,rfl,rfl⟩;unfold kP dQ zG X3;rw[this.1,this.2];exact⟨rfl,rfl⟩
def xK (f:Nat->Bool):Nat->Option Nat
 |0=>none
 |a+1=>if f a=true then some a else xK f a
theorem L8 {f:Nat->Bool}{a:Nat}:∀{n:Nat},xK f n=some a↔a<n/\f a=true/\∀k,a<k->k<n->f k=false
 |0=>by simp[xK]
 |n+1=>by
  rw[xK];by_cases h:f n=true
  ·rw[if_pos h,Option.some.injEq];constructor
   ·rintro rfl;exact⟨by omega,h,fun k h1 h2=>by omega⟩
   ·rintro⟨h1,h2,h3⟩;by_cases he:n=a
    ·exact he
    ·rw[h3 n (by omega) (by omega)]at h;cases h
  ·rw[if_neg h,L8];have hf:f n=false:=by simpa using h
   constructor
   ·rintro⟨h1,h2,h3⟩;refine⟨by omega,h2,fun k hk hkn=> ?_⟩;by_cases he:k=n
    ·rw[he];exact hf
    ·exact h3 k hk (by omega)
   ·rintro⟨h1,h2,h3⟩;refine⟨?_,h2,fun k hk hkn=>h3 k hk (by omega)⟩;by_cases he:a=n
    ·rw[he,hf]at h2;cases h2
    ·omega
def UD (o items:L1)(b a:Nat):Bool:=decide (at1 o (at1 items a).toNat=at1 o (at1 items b).toNat)
def DT (o items:L1)(b:Nat):List Con:=match xK (UD o items b) b with
 |some a=>[⟨a,b,true⟩]
 |none=>[]
def rH (o items:L1)(n:Nat):List Con:=(List.range n).flatMap (DT o items)
def ag5 (kept:List Ver)(items:L1):List Con:=wK (apart kept) items++rH (dX kept) items items.length
theorem Z6 (o items:L1)(n:Nat):rH o items (n+1)=rH o items n++DT o items n:=by simp[rH,List.range_succ]
theorem adE (h:l.Nodup)(hi:i<l.length)(hk:k<l.length)(e:at1 l i=at1 l k):i=k:=by
 have h1:=aD hi;have h2:=aD hk;rw[List.getElem?_eq_getElem hi]at h1;rw[List.getElem?_eq_getElem hk]at h2;have h3:l[i]=l[k]:=by rw[Option.some.inj h1,Option.some.inj h2,e]
 rcases Nat.lt_trichotomy i k with hlt|he|hlt
 ·exact absurd h3 (List.pairwise_iff_getElem.1 h i k hi hk hlt)
 ·exact he
 ·exact absurd h3.symm (List.pairwise_iff_getElem.1 h k i hk hi hlt)
theorem apD {kept:List Ver}(hk:∀v∈kept,bH v=true)(hi:∀x∈items,inT x)(hn:items.Nodup):(ag5 kept items).Perm (iI kept items):=by
 have hin:∀v∈kept,inT v.a/\inT v.b:=fun v h=>⟨(jZ (hk v h)).1,(jZ (hk v h)).2.1⟩;have hj:joined kept=qJ (mM kept):=rfl
 have link:∀a b,a<items.length->b<items.length->a≠b->(UD (dX kept) items b a=true↔(0<=bA (joined kept) (at1 items a)/\bA (joined kept) (at1 items a)=bA (joined kept) (at1 items b))):=by
  intro a b ha hb hne;have h1:=hi _ (List.mem_of_getElem? (aD ha));have h2:=hi _ (List.mem_of_getElem? (aD hb));rw[UD,decide_eq_true_eq,ag6 hin rfl h1 h2 (fun e=>hne (adE hn ha hb e)),hj]
 have hmem:∀c,c∈rH (dX kept) items items.length↔c∈BQ (joined kept) items:=by
  intro c;unfold rH BQ;simp only[List.mem_flatMap,List.mem_range];constructor
  ·rintro⟨b,hb,hc⟩;unfold DT at hc;split at hc
   ·next a ha=>
    obtain rfl:c=⟨a,b,true⟩:=by simpa using hc
    obtain⟨h1,h2,h3⟩:=L8.1 ha;have h4:=(link a b (by omega) hb (by omega)).1 h2;refine⟨a,by omega,?_⟩
    have h5:FX (joined kept) items a=some b:=by
     unfold FX;rw[List.find?_range_eq_some];refine⟨by simp;exact⟨h1,h4.2.symm⟩,by simpa using hb,fun k hkb=> ?_⟩;simp only[Bool.not_eq_true',Bool.and_eq_false_iff,decide_eq_false_iff_not];by_cases hak:a<k
     ·right;intro e;have:=(link k b (by omega) hb (by omega)).2 ⟨by rw[e];exact h4.1,by rw[e];exact h4.2⟩;rw[h3 k hak hkb]at this;cases this
     ·left;exact hak
    unfold kT;rw[if_pos h4.1,h5];simp
   ·cases hc
  ·rintro⟨a,ha,hc⟩;unfold kT at hc;split at hc
   ·next h0=>
    split at hc
    ·next b hb=>
     obtain rfl:c=⟨a,b,true⟩:=by simpa using hc
     unfold FX at hb;rw[List.find?_range_eq_some]at hb;obtain⟨h1,h2,h3⟩:=hb;simp only[Bool.and_eq_true,decide_eq_true_eq]at h1;have hbl:b<items.length:=by simpa using h2
     refine⟨b,hbl,?_⟩
     have h5:xK (UD (dX kept) items b) b=some a:=by
      rw[L8];refine⟨h1.1,(link a b ha hbl (by omega)).2 ⟨h0,h1.2.symm⟩,fun k hak hkb=> ?_⟩;rw[Bool.eq_false_iff];intro hl;have h6:=(link k b (by omega) hbl (by omega)).1 hl;have h7:=h3 k hkb;simp only[Bool.not_eq_true',Bool.and_eq_false_iff,decide_eq_false_iff_not]at h7;rcases h7 with h7|h7
      ·exact h7 hak
      ·exact h7 (by rw[h6.2,h1.2])
     unfold DT;rw[h5];simp
    ·cases hc
   ·cases hc
 have hnd1:(rH (dX kept) items items.length).Nodup:=by
  refine List.pairwise_flatMap.2 ⟨fun b _=> ?_,List.pairwise_lt_range.imp fun{b b'} hlt x hx y hy=> ?_⟩
  ·unfold DT;split<;>simp
  ·unfold DT at hx hy;split at hx<;>split at hy
   ·obtain rfl:=List.mem_singleton.1 hx;obtain rfl:=List.mem_singleton.1 hy;intro e;have:=congrArg Con.b e;simp at this;omega
   all_goals simp at hx hy
 have hnd2:(BQ (joined kept) items).Nodup:=by
  refine List.pairwise_flatMap.2 ⟨fun b _=> ?_,List.pairwise_lt_range.imp fun{b b'} hlt x hx y hy=> ?_⟩
  ·unfold kT;split
   ·split<;>simp
   ·simp
  ·unfold kT at hx hy;split at hx<;>split at hy
   ·split at hx<;>split at hy
    ·obtain rfl:=List.mem_singleton.1 hx;obtain rfl:=List.mem_singleton.1 hy;intro e;have:=congrArg Con.a e;simp at this;omega
    all_goals simp at hx hy
   all_goals simp at hx hy
 have hp:=(List.perm_ext_iff_of_nodup hnd1 hnd2).2 hmem;unfold ag5 iI;exact List.perm_append_comm.trans (hp.append_right _)
def gstep (c:Nat->Int->Bool)(v:Int)(k:Nat)(l:L1):L1:=if c k (at1 l k)=true then l.set k v else l
theorem YR (c:Nat->Int->Bool)(v:Int)(l:L1):∀j≤l.length,(loopN j l (gstep c v)).length=l.length/\∀k,k<l.length->at1 (loopN j l (gstep c v)) k=if k<j/\c k (at1 l k)=true then v else at1 l k
 |0,_=>⟨rfl,fun k hk=>by rw[loopN_zero,if_neg (by omega)]⟩
 |j+1,hj=>by
  obtain⟨h1,h2⟩:=YR c v l j (by omega);rw[aA];have h3:=h2 j (by omega);rw[if_neg (by omega)]at h3;generalize loopN j l (gstep c v)=o at h1 h2 h3|-
  unfold gstep;rw[h3];by_cases hc:c j (at1 l j)=true
  ·rw[if_pos hc];refine⟨by simp[h1],fun k hk=> ?_⟩;rw[qA k (by omega),h2 k hk];by_cases hjk:j=k
   ·subst hjk;rw[if_pos rfl,if_pos ⟨by omega,hc⟩]
   ·rw[if_neg hjk];by_cases h4:k<j/\c k (at1 l k)=true
    ·rw[if_pos h4,if_pos ⟨by omega,h4.2⟩]
    ·rw[if_neg h4,if_neg (fun h5=>h4 ⟨by omega,h5.2⟩)]
  ·rw[if_neg hc];refine⟨h1,fun k hk=> ?_⟩;rw[h2 k hk];by_cases h4:k<j/\c k (at1 l k)=true
   ·rw[if_pos h4,if_pos ⟨by omega,h4.2⟩]
   ·rw[if_neg h4,if_neg];rintro⟨h5,h6⟩;by_cases hjk:k=j
    ·subst hjk;exact hc h6
    ·exact h4 ⟨by omega,h6⟩
def pvB (m:L2)(p:Nat)(k:Nat)(z:Int):Bool:=decide (0<at2 m p k)&&decide (z<0)
def UG (m:L2)(order:L1)(i:Nat)(l:L1):L1:=if 0<=at1 l (at1 order i).toNat then l else loopN m.length (l.set (at1 order i).toNat (at1 order i)) (gstep (pvB m (at1 order i).toNat) (at1 order i))
def auJ (m:L2)(order:L1):L1:=loopN order.length (List.replicate m.length (-1)) (UG m order)
def PvR (order:L1)(n:Nat)(a b:L1):Prop:=a.length=n/\b.length=n/\∀k<n,(at1 a k= -1/\at1 b k= -1)\/(0<=at1 a k/\at1 a k<order.length/\at1 b k=at1 order (at1 a k).toNat)
theorem anR (m:L2)(p x:Int):qH m p x=gstep (fun k z=>decide (z<0/\((k:Int)=p\/at2 m p.toNat k>0))) x:=by
 funext k l;unfold qH gstep;simp only[decide_eq_true_eq]
variable {order:L1}
theorem aBZ {m:L2}(hm:aI m=true)(ho:xG m.length order=true):∀j≤order.length,PvR order m.length (loopN j (List.replicate m.length (-1)) (pivOne m order)) (loopN j (List.replicate m.length (-1)) (UG m order)):=by
 obtain⟨hol,_,_,hnd,hrg⟩:=NU ho;intro j
 induction j with
 |zero=>
  refine fun _=>⟨by simp[loopN_zero],by simp[loopN_zero],fun k hk=> .inl ?_⟩;simp[loopN_zero,at1,List.getD_eq_getElem?_getD,hk]
 |succ j ih=>
  intro hj;have hr:=ih (by omega);rw[aA,aA];generalize loopN j (List.replicate m.length (-1)) (pivOne m order)=a at hr|-
  generalize loopN j (List.replicate m.length (-1)) (UG m order)=b at hr|-
  obtain⟨ha,hb,h⟩:=hr;have hp:=hrg j (by omega);have hpl:(at1 order j).toNat<m.length:=by omega
  have hpp:=h _ hpl;unfold pivOne UG
  have hsg:(0<=at1 a (at1 order j).toNat)↔(0<=at1 b (at1 order j).toNat):=by
   rcases hpp with⟨h1,h2⟩|⟨h1,h2,h3⟩
   ·omega
   ·have:=hrg (at1 a (at1 order j).toNat).toNat (by omega);omega
  by_cases h0:0<=at1 a (at1 order j).toNat
  ·rw[if_pos h0,if_pos (hsg.1 h0)];exact⟨ha,hb,h⟩
  ·rw[if_neg h0,if_neg (fun e=>h0 (hsg.2 e)),anR];obtain⟨g1,g2⟩:=YR (fun k z=>decide (z<0/\((k:Int)=at1 order j\/at2 m (at1 order j).toNat k>0))) (j:Int) a m.length (by omega);obtain⟨g3,g4⟩:=YR (pvB m (at1 order j).toNat) (at1 order j) (b.set (at1 order j).toNat (at1 order j)) m.length (by simp[hb]);refine⟨by rw[g1,ha],by rw[g3];simp[hb],fun k hk=> ?_⟩;rw[g2 k (by omega),g4 k (by simp[hb,hk])];rw[qA k (by omega)];have hk0:=h k hk
   have hd:at2 m (at1 order j).toNat (at1 order j).toNat=0:=by
    have:=hm;rw[RF]at this;simp only[wB,Bool.and_eq_true,List.all_eq_true,List.mem_range,decide_eq_true_eq]at this;exact(this.1 _ hpl).1.2
   by_cases hkp:(at1 order j).toNat=k
   ·rw[if_pos hkp];have h5:at1 a k<0:=by rw[←hkp];omega
    rw[if_pos ⟨hk,by simp only[decide_eq_true_eq];exact⟨h5,.inl (by omega)⟩⟩];rw[if_neg (by rintro⟨_,h6⟩;simp only[pvB,Bool.and_eq_true,decide_eq_true_eq]at h6;omega)];right;refine⟨by omega,by omega,?_⟩;simp
   ·rw[if_neg hkp];have hkp':¬(k:Int)=at1 order j:=by omega
    by_cases hw:at1 a k<0/\at2 m (at1 order j).toNat k>0
    ·have hbk:at1 b k<0:=by
      rcases hk0 with h6|h6
      ·omega
      ·omega
     rw[if_pos ⟨hk,by simp only[decide_eq_true_eq];exact⟨hw.1,.inr hw.2⟩⟩,if_pos ⟨hk,by simp only[pvB,Bool.and_eq_true,decide_eq_true_eq];exact⟨hw.2,hbk⟩⟩];right;refine⟨by omega,by omega,by simp⟩
    ·rw[if_neg (by rintro⟨_,h6⟩;simp only[decide_eq_true_eq]at h6;exact hw ⟨h6.1,h6.2.resolve_left hkp'⟩)];rw[if_neg]
     ·exact hk0
     ·rintro⟨_,h6⟩;simp only[pvB,Bool.and_eq_true,decide_eq_true_eq]at h6;rcases hk0 with h7|⟨h7,h8,h9⟩
      ·exact hw ⟨by omega,h6.1⟩
      ·have:=hrg (at1 a k).toNat (by omega);omega
theorem avE {m:L2}(hm:aI m=true)(ho:xG m.length order=true):canon (auJ m order)=eD m order:=by
 obtain⟨hol,_,_,hnd,hrg⟩:=NU ho;obtain⟨h1,h2,h3⟩:=aBZ hm ho order.length (Nat.le_refl _);unfold eD VU auJ;refine(afN (by rw[h1,h2]) fun i k hi hk=> ?_).symm;rw[h1]at hi hk;have a:=h3 i hi;have b:=h3 k hk;rcases a with⟨a1,a2⟩|⟨a1,a2,a3⟩<;>rcases b with⟨b1,b2⟩|⟨b1,b2,b3⟩
 ·omega
 ·have:=hrg _ (show(at1 (loopN order.length (List.replicate m.length (-1)) (pivOne m order)) k).toNat<order.length by omega);omega
 ·have:=hrg _ (show(at1 (loopN order.length (List.replicate m.length (-1)) (pivOne m order)) i).toNat<order.length by omega);omega
 ·rw[a3,b3];constructor
  ·intro e;rw[e]
  ·intro e;have:=adE hnd (by omega) (by omega) e;omega
theorem ajW {a:Nat}{s:σ}{f:Nat->σ->σ}(h:∀i x,a<=i->i<n->f i x=x)(ha:a<=n):loopN n s f=loopN a s f:=by
 induction n with
 |zero=>obtain rfl:a=0:=by omega
        rfl
 |succ n ih=>
  by_cases he:a=n+1
  ·rw[he]
  ·rw[aA,h n _ (by omega) (by omega)];exact ih (fun i x h1 h2=>h i x h1 (by omega)) (by omega)
def mvGain (m:L2)(l:L1)(i k:Nat):Int:=aQ m l-aQ m (canon (l.set i k))
def yA (m:L2)(cs:List Con)(l:L1)(i k:Nat)(b:Mov):Mov:=if mvGain m l i k>b.gain/\gW cs (canon (l.set i k))=true then⟨i,k,mvGain m l i k⟩else b
def alI (m:L2)(cs:List Con)(l:L1)(i:Nat)(b:Mov):Mov:=loopN (sV l+2).toNat b (yA m cs l i)
def mvBest (m:L2)(cs:List Con)(l:L1):Mov:=loopN l.length ⟨0,0,0⟩ (alI m cs l)
theorem af8 (h:bM l=true):sV l<l.length/\ -1<=sV l:=by
 have hr:=(isPart_iff.1 h).1;have hl:=(isPart_len h).1
 have key:∀j≤l.length, -1<=loopN j (-1) (fun i t=>max t (at1 l i))/\loopN j (-1) (fun i t=>max t (at1 l i))<(l.length:Int):=by
  intro j
  induction j with
  |zero=>intro _;rw[loopN_zero];omega
  |succ j ih=>
   intro hj;have:=ih (by omega);have:=aqN hr j (by omega);rw[aA];omega
 have:=key l.length (Nat.le_refl _);unfold sV;omega
theorem LG (h:1<=l.length/\l.length<=8):bM (canon l)=true:=isPart_iff.2 ⟨BR l,by rw[jE];exact h.1,by rw[jE];exact h.2⟩
theorem A7 {m:L2}(hm:aI m=true)(hp:bM l=true)(hl:l.length=m.length):nA m l=aQ m l:=if_pos ⟨hm,hp,hl⟩
theorem aoV {m:L2}{cs:List Con}(hm:aI m=true)(hp:bM l=true)(hl:l.length=m.length)(hk:gW cs l=true):mvBest m cs l=gG m cs l:=by
 have hc:ag7 m cs l=true:=by
  unfold ag7;rw[A7 hm hp hl,afM hp,hk];have:=eB hm l;simp[this]
 have ht:=af8 hp;have hpl:=isPart_len hp;unfold mvBest gG;rw[if_pos hc];refine nO fun i b hi=> ?_;unfold alI X0
 have h1:loopN (l.length+1) b (oW m cs l i)=loopN (sV l+2).toNat b (oW m cs l i):=by
  refine ajW (fun k x h1 h2=> ?_) (by omega);unfold oW;rw[if_neg];rintro⟨h3,_⟩;simp only[pG,Bool.and_eq_true,decide_eq_true_eq]at h3;omega
 rw[h1];refine nO fun k b hk2=> ?_
 have hok:pG l i k=true:=by
  simp only[pG,Bool.and_eq_true,decide_eq_true_eq];exact⟨⟨hp,by omega⟩,by omega⟩
 have hmv:jY l i k=canon (l.set i k):=by
  unfold jY;rw[if_pos hok];simp
 have hcl:(canon (l.set i k)).length=l.length:=by rw[jE];simp
 have hcp:bM (canon (l.set i k))=true:=LG (by simp;omega)
 have hg:BK m l i k=mvGain m l i k:=by
  unfold BK mvGain;have:=eB hm l;rw[A7 hm hp hl,if_pos ⟨hok,this⟩,hmv,A7 hm hcp (by omega)]
 unfold yA oW;rw[hg,hmv,afM hcp];simp[hok]
theorem abE {m:L2}{cs:List Con}:0<=(mvBest m cs l).gain/\(0<(mvBest m cs l).gain->0<=(mvBest m cs l).item/\(mvBest m cs l).item<l.length/\0<=(mvBest m cs l).block/\(mvBest m cs l).block<=sV l+1/\gW cs (canon (l.set (mvBest m cs l).item.toNat (mvBest m cs l).block))=true):=by
 refine loopN_inv (fun _ (b:Mov)=>0<=b.gain/\(0<b.gain->0<=b.item/\b.item<l.length/\0<=b.block/\b.block<=sV l+1/\gW cs (canon (l.set b.item.toNat b.block))=true)) ⟨by simp,by simp⟩ fun i b hi hb=> ?_;refine loopN_inv (fun _ (b:Mov)=>0<=b.gain/\(0<b.gain->0<=b.item/\b.item<l.length/\0<=b.block/\b.block<=sV l+1/\gW cs (canon (l.set b.item.toNat b.block))=true)) hb fun k b hk hb=> ?_;unfold yA;split
 ·next h=>exact⟨by simp only;omega,fun _=>⟨by simp only;omega,by simp only;omega,by simp only;omega,by simp only;omega,by simpa using h.2⟩⟩
 ·exact hb
theorem ai7 {m:L2}{cs:List Con}(hm:aI m=true)(hp:bM l=true)(hl:l.length=m.length)(hk:gW cs l=true)(f:Nat):kE m cs (f+1) l=if 0<(mvBest m cs l).gain then kE m cs f (canon (l.set (mvBest m cs l).item.toNat (mvBest m cs l).block))else l:=by
 rw[kE,←aoV hm hp hl hk];obtain⟨h1,h2⟩:=abE (m:=m) (cs:=cs) (l:=l);split
 ·next hg=>
  have h3:=h2 hg;congr 1;unfold jY;rw[if_pos];simp only[pG,Bool.and_eq_true,decide_eq_true_eq];exact⟨⟨hp,by omega⟩,by omega⟩
 ·rfl
theorem al5 {a b:L2}(ha:sq2 n a)(hb:sq2 n b)(h:∀i k,i<n->k<n->at2 a i k=at2 b i k):a=b:=by
 apply List.ext_getElem?;intro i;by_cases hi:i<n
 ·rw[(kU ha hi).1,(kU hb hi).1];congr 1;refine adQ (by rw[(kU ha hi).2,(kU hb hi).2]) fun k hk=> ?_;rw[(kU ha hi).2]at hk;exact h i k hi hk
 ·rw[List.getElem?_eq_none (by rw[ha.1];omega),List.getElem?_eq_none (by rw[hb.1];omega)]
def wAt (l:List Rec)(rs:List (List Tst))(s:Sco)(i k:Nat):Int:=cK rs s (vC (recAt l i) (recAt l k))
def ad2 (l:List Rec)(rs:List (List Tst))(s:Sco)(i k:Nat)(m:L2):L2:=set2 (set2 m i k (wAt l rs s i k)) k i (wAt l rs s i k)
def aeY (l:List Rec)(rs:List (List Tst))(s:Sco)(i:Nat)(m:L2):L2:=loopN i m (ad2 l rs s i)
def bwM (l:List Rec)(rs:List (List Tst))(s:Sco):L2:=loopN l.length (zeros l.length) (aeY l rs s)
theorem aCK (l:List Rec)(rs:List (List Tst))(s:Sco)(h:k<i):wAt l rs s i k=eZ l rs s i k:=by
 unfold wAt eZ;rw[if_neg (by omega),Nat.min_eq_right (by omega),Nat.max_eq_left (by omega),ak0]
variable {rs:List (List Tst)}
theorem aeD {l:List Rec}{s:Sco}{m:L2}(h:sq2 n m)(hi:i<n)(hk:k<i):sq2 n (ad2 l rs s i k m):=oM (oM h hi _) (by omega) _
theorem aEC {l:List Rec}{s:Sco}{m:L2}(h:sq2 n m)(hi:i<n)(hk:k<=i):sq2 n (loopN k m (ad2 l rs s i)):=loopN_inv (fun _ m=>sq2 n m) h fun j m hj hm=>aeD hm hi (by omega)
theorem aBM {l:List Rec}{s:Sco}(hi:i<=n):sq2 n (loopN i (zeros n) (aeY l rs s)):=loopN_inv (fun _ m=>sq2 n m) (jK n) fun j m hj hm=>aEC hm (by omega) (Nat.le_refl _)
theorem aCA (l:List Rec)(rs:List (List Tst))(s:Sco):bwM l rs s=weights l rs s:=by
 have hw:sq2 l.length (weights l rs s):=⟨by simp[weights],fun r hr=>by
  unfold weights at hr;rw[List.mem_map]at hr;obtain⟨i,_,rfl⟩:=hr;simp[oK]⟩
 refine al5 (aBM (Nat.le_refl _)) hw fun a b ha hb=> ?_;rw[MZ l rs s ha hb]
 have key:=loopN_inv (n:=l.length) (s:=zeros l.length) (f:=aeY l rs s) (fun i m=>sq2 l.length m/\∀a b,a<l.length->b<l.length->at2 m a b=if a<i/\b<i then eZ l rs s a b else 0) ⟨jK _,fun a b _ _=>by rw[CF,if_neg (by omega)]⟩ fun i m hi ⟨h1,h2⟩=>by
  have h3:=loopN_inv (n:=i) (s:=m) (f:=ad2 l rs s i) (fun k m'=>sq2 l.length m'/\∀a b,a<l.length->b<l.length->at2 m' a b=if(a<i/\b<i)\/(a=i/\b<k)\/(b=i/\a<k)then eZ l rs s a b else 0) ⟨h1,fun a b ha hb=>by rw[h2 a b ha hb];by_cases hc:a<i/\b<i;(rw[if_pos hc,if_pos (.inl hc)]);rw[if_neg hc,if_neg (by omega)]⟩ fun k m' hk ⟨h4,h5⟩=>by
   refine⟨aeD h4 hi hk,fun a b ha hb=> ?_⟩;unfold ad2;rw[vK (oM h4 hi _) (by omega) hi,vK h4 hi (by omega),h5 a b ha hb,aCK l rs s hk];by_cases c1:a=k/\b=i
   ·obtain⟨rfl,rfl⟩:=c1;rw[if_pos ⟨rfl,rfl⟩,if_pos (by omega),KW]
   ·rw[if_neg c1];by_cases c2:a=i/\b=k
    ·obtain⟨rfl,rfl⟩:=c2;rw[if_pos ⟨rfl,rfl⟩,if_pos (by omega)]
    ·rw[if_neg c2];by_cases c3:(a<i/\b<i)\/(a=i/\b<k)\/(b=i/\a<k)
     ·rw[if_pos c3,if_pos (by omega)]
     ·rw[if_neg c3,if_neg (by omega)]
  refine⟨h3.1,fun a b ha hb=> ?_⟩;rw[aeY,h3.2 a b ha hb];by_cases c:a=i/\b=i
  ·obtain⟨rfl,rfl⟩:=c;rw[if_neg (by omega),if_pos (by omega)];simp[eZ]
  ·by_cases c2:(a<i/\b<i)\/(a=i/\b<i)\/(b=i/\a<i)
   ·rw[if_pos c2,if_pos (by omega)]
   ·rw[if_neg c2,if_neg (by omega)]
 rw[bwM,key.2 a b ha hb,if_pos ⟨ha,hb⟩]
section
variable (x y:Str) (tr:Bool)
def edP (i k:Nat):L1:=edR x y tr i k++List.replicate (y.length+1-k) 0
def edT (i:Nat):L2:=(List.range i).map fun i=>edR x y tr i (y.length+1)
def edU (i k:Nat):L2:=edT x y tr i++edP x y tr i k::List.replicate (x.length-i) []
variable {x y tr}
theorem JA (i k:Nat):(edR x y tr i k).length=k:=by simp[edR]
theorem awR (h:k<=y.length+1):(edP x y tr i k).length=y.length+1:=by simp[edP,JA];omega
theorem V7 (h:j<k):(edR x y tr i k)[j]?=some (ed x y tr i j):=by simp[edR,h]
theorem azH (h:j<k):(edP x y tr i k)[j]?=some (ed x y tr i j):=by
 rw[edP,List.getElem?_append_left (by rw[JA];exact h),V7 h]
theorem aBT (h:k<=y.length):(edP x y tr i k)[k]?=some 0:=by
 rw[edP,List.getElem?_append_right (by rw[JA];omega),JA,Nat.sub_self,List.getElem?_replicate,if_pos (by omega)]
theorem ayO (h:k<=y.length):(edP x y tr i k).set k (ed x y tr i k)=edP x y tr i (k+1):=by
 obtain⟨d,hd⟩:∃d,y.length+1-k=d+1:=⟨y.length-k,by omega⟩;have hd2:y.length+1-(k+1)=d:=by omega
 rw[edP,edP,hd,hd2,List.set_append_right _ _ (by rw[JA];omega),JA,Nat.sub_self,List.replicate_succ,List.set_cons_zero,edR,edR,List.range_succ,List.map_append];simp
theorem uS (i:Nat):(edT x y tr i).length=i:=by simp[edT]
theorem amB (h:j<i):(edT x y tr i)[j]?=some (edR x y tr j (y.length+1)):=by simp[edT,h]
theorem azK (h:j<i):(edU x y tr i k)[j]?=some (edR x y tr j (y.length+1)):=by
 rw[edU,List.getElem?_append_left (by rw[uS];exact h),amB h]
theorem alV (i k:Nat):(edU x y tr i k)[i]?=some (edP x y tr i k):=by
 rw[edU,List.getElem?_append_right (by rw[uS];omega),uS,Nat.sub_self];rfl
theorem ax6 (i k:Nat)(r:L1):(edU x y tr i k).set i r=edT x y tr i++r::List.replicate (x.length-i) []:=by
 rw[edU,List.set_append_right _ _ (by rw[uS];omega),uS,Nat.sub_self];rfl
theorem aqQ (i:Nat):edT x y tr (i+1)=edT x y tr i++[edR x y tr i (y.length+1)]:=by simp[edT,List.range_succ]
theorem ay8 (i:Nat):edP x y tr i (y.length+1)=edR x y tr i (y.length+1):=by simp[edP]
end
section
variable {α:Type}
def eG (p:α->α->Bool)(l:List α):List α:=l.foldl (fun out v=>dW (p v) out v) []
def NG (out:List α)(v:α)(j:Nat):List α:=out.take j++v::out.drop j
def tZ (p:α->α->Bool)(l:List α)(i j:Nat)(v:α):List α:=NG (eG p (l.take i)) v j++l.drop (i+1)
theorem ap9 (p:α->α->Bool)(l:List α):(eG p l).length=l.length:=by have:=uQ p l [];rwa [List.length_nil,Nat.zero_add]at this
theorem qM {p:α->α->Bool}{l:List α}(h:i<=l.length):(eG p (l.take i)).length=i:=by rw[ap9];simp;omega
theorem apR (out:List α)(v:α):NG out v out.length=out++[v]:=by simp[NG]
theorem amU {p:α->α->Bool}{l:List α}{v:α}(h:l[i]?=some v):tZ p l i i v=eG p (l.take i)++l.drop i:=by
 have hi:=aS h;have hl:=qM (p:=p) (l:=l) (i:=i) (by omega)
 have:NG (eG p (l.take i)) v i=eG p (l.take i)++[v]:=by
  have:=apR (eG p (l.take i)) v
  rwa [hl]at this
 rw[tZ,this,List.append_assoc,List.drop_eq_getElem_cons hi];rw[List.getElem?_eq_getElem hi]at h;rw[Option.some.inj h];rfl
theorem ahU {p:α->α->Bool}{l:List α}{v:α}(hi:i<l.length)(hj:j<=i):(tZ p l i j v)[j]?=some v:=by
 have hl:=qM (p:=p) (l:=l) (i:=i) (by omega);rw[tZ,NG,List.append_assoc,List.getElem?_append_right (by simp;omega)];simp[hl,Nat.min_eq_left hj]
theorem acJ {p:α->α->Bool}{l:List α}{v c:α}(hi:i<l.length)(hj:j<i)(hc:(eG p (l.take i))[j]?=some c):(tZ p l i (j+1) v)[j]?=some c:=by
 have hl:=qM (p:=p) (l:=l) (i:=i) (by omega);rw[tZ,NG,List.append_assoc,List.getElem?_append_left (by simp;omega),List.getElem?_take,if_pos (by omega),hc]
theorem an0 {p:α->α->Bool}{l:List α}{v c:α}(hi:i<l.length)(hj:j<i)(hc:(eG p (l.take i))[j]?=some c):((tZ p l i (j+1) v).set (j+1) c).set j v=tZ p l i j v:=by
 have hl:=qM (p:=p) (l:=l) (i:=i) (by omega);have h1:(eG p (l.take i)).take (j+1)=(eG p (l.take i)).take j++[c]:=aU hc
 have h2:(eG p (l.take i)).drop j=c::(eG p (l.take i)).drop (j+1):=by
  have hlt:=aS hc;rw[List.drop_eq_getElem_cons hlt];rw[List.getElem?_eq_getElem hlt]at hc;rw[Option.some.inj hc]
 have h3:((eG p (l.take i)).take j).length=j:=by simp;omega
 rw[tZ,tZ,NG,NG,h1,h2];generalize(eG p (l.take i)).take j=A at h3|-
 generalize(eG p (l.take i)).drop (j+1)=B;subst h3;simp
theorem N7 {p:α->α->Bool}{l:List α}{v:α}(h:l[i]?=some v)(hj:j<=i)(h1:∀k c,j<=k->(eG p (l.take i))[k]?=some c->p v c=true)(h2:j=0\/∃c,(eG p (l.take i))[j-1]?=some c/\p v c=false):tZ p l i j v=eG p (l.take (i+1))++l.drop (i+1):=by
 have hi:=aS h;have hl:=qM (p:=p) (l:=l) (i:=i) (by omega)
 have h3:eG p (l.take (i+1))=dW (p v) (eG p (l.take i)) v:=by
  rw[eG,bB _ _ h];rfl
 have h4:=GR (p:=p v) (l:=eG p (l.take i)) (k:=j) (by omega) (fun k hk hlt=>h1 k _ hk (List.getElem?_eq_getElem hlt)) h2;rw[h3,tZ,NG,dW,h4];simp
end
def DC (f:Nat->Nat->Int)(i k:Nat)(m:L2):L2:=set2 m i k (f i k)
def PP (n:Nat)(f:Nat->Nat->Int)(i:Nat)(m:L2):L2:=loopN n m (DC f i)
def aqI (n:Nat)(f:Nat->Nat->Int):L2:=loopN n (zeros n) (PP n f)
theorem ajM {f:Nat->Nat->Int}{m:L2}(h:sq2 n m)(hi:i<n):sq2 n (loopN j m (DC f i)):=loopN_inv (fun _ m=>sq2 n m) h fun k m _ hm=>oM hm hi _
theorem axU {f:Nat->Nat->Int}(hj:j<=n):sq2 n (loopN j (zeros n) (PP n f)):=loopN_inv (fun _ m=>sq2 n m) (jK n) fun i m hi hm=>ajM hm (by omega)
theorem ax2 {f:Nat->Nat->Int}{a b:Nat}(ha:a<n)(hb:b<n):at2 (aqI n f) a b=f a b:=by
 have h:=loopN_inv (n:=n) (s:=zeros n) (f:=PP n f) (fun i m=>sq2 n m/\∀a b,a<i->b<n->at2 m a b=f a b) ⟨jK n,fun a b h=>by omega⟩ fun i m hi ⟨h1,h2⟩=>by
  have h3:=loopN_inv (n:=n) (s:=m) (f:=DC f i) (fun k m'=>sq2 n m'/\(∀a b,a<i->b<n->at2 m' a b=f a b)/\∀b,b<k->at2 m' i b=f i b) ⟨h1,h2,fun b h=>by omega⟩ fun k m' hk ⟨h4,h5,h6⟩=>by
   refine⟨oM h4 hi _,fun a b ha hb=> ?_,fun b hb=> ?_⟩
   ·rw[DC,vK h4 hi hk,if_neg (by omega)];exact h5 a b ha hb
   ·rw[DC,vK h4 hi hk];by_cases e:b=k
    ·subst e;simp
    ·rw[if_neg (by omega)];exact h6 b (by omega)
  refine⟨h3.1,fun a b ha hb=> ?_⟩;by_cases e:a=i
  ·subst e;exact h3.2.2 b hb
  ·exact h3.2.1 a b (by omega) hb
 exact h.2 a b ha hb
theorem asY {m:L2}:aqI items.length (fun i k=>at2 m (at1 items i).toNat (at1 items k).toNat)=dZ m items:=by
 refine al5 (axU (Nat.le_refl _)) ⟨by simp[dZ],fun r hr=> ?_⟩ fun i k hi hk=> ?_
 ·unfold dZ at hr;rw[List.mem_map]at hr;obtain⟨x,_,rfl⟩:=hr;simp
 ·show at2 (aqI items.length _) i k=_;rw[ax2 hi hk,ac7 hi hk]
end Go.Pl
end
