/- Lemmas and walks that the law leans on, part V3. No condition. -/
import Derived.ChangeArms
import Derived.ChangeShapes
import Derived.Lib.SlicesCompact
import Derived.Sort.Walk0
import Derived.Lib.IndexAny
import Derived.Lib.Strings
import Derived.Lib.IndexMore
import Derived.Lib.Replace
import Derived.Lib.IndexBytes
import Derived.Lib.FieldsP
import Derived.Lib.AtoiTie
import Derived.OpenShut
import Derived.ShutString
import Derived.ChangeOld
import Derived.Carry
import Derived.SizedLaws
import Derived.Lib.Hide
import Derived.BigQuiet
import Derived.Deep.QuietTactic
import Derived.StillTailTactics
import Derived.Deep.RegionLaw
import Derived.JoinedTies
import Derived.KernelRfl
import Derived.Test.YtnlkiflcbknaaaaGreatDoorV2
set_option linter.unusedVariables false
set_option linter.defProp false
set_option linter.unusedSimpArgs false
set_option linter.unusedSectionVars false
set_option maxRecDepth 10000
set_option maxHeartbeats 1000000
section
namespace Go.Proofs.YtnlkiflcbknaaaaGreatDoor
open Go.Dv Go.Proofs.Tryz
def QJ:L1:=[0,1,2,3,0,1,2, -1,0,2,2,4,5,5,0,1,2,6,2,3,0,1, -1,2,0,2]
def CQ (w:World):Prop:=Lib.TabIs prog w "internal/strconv.uint64pow10" .u64 Lib.pow10Tab/\(∃tp p,w.var? prog "strconv.ErrSyntax" =some #[.iface tp p])/\(∃tp p,w.var? prog "strconv.ErrRange" =some #[.iface tp p])/\(∃m,w.cell? ⟨3,0,none⟩=some (.int .i64 m))/\w.var? prog "loop.example/g01923/impl.soundCodes" =some (QJ.map fun k=>Value.int .i64 k).toArray
instance:lG:=⟨fun gl=>∀w:World,(∀p∈gl,w.heap[p.1]?=some p.2)->CQ w⟩
def MP {w:World}{ow:Own}(h:Laid w ow):CQ w:=by
 obtain⟨gl,h1,h2⟩:=h;exact h1 w fun p hp=>(h2 p hp).1
def T:TypeId->TyE:=aCN [(1000011,1000),(1000012,0),(1000033,1000),(1000034,1000),(1000035,1000),(1000036,0),(1000068,1000),(1000069,1000),(1000070,0),(1000071,0),(1000114,0),(1000115,0),(1000189,0),(1000196,0),(1000225,0),(1000263,0),(1000268,0),(1000281,1000),(1000285,0),(1000310,0),(1000323,0),(1000327,0),(1000347,0),(1000376,0),(1000390,999),(1000392,999),(1000393,999),(1000435,999)] [(3,⟨.int .i64,1,.one (.int .i64 0)⟩),
 (4,⟨.bool,1,.one (.bool false)⟩),
 (5,⟨.int .u8,1,.one (.int .u8 0)⟩),
 (9,⟨.str,1,.one (.string {data:= #[]})⟩),
 (22,⟨.sl 175,1,.sl (some 175) []⟩),
 (24,⟨.agg [(0,22)],1,.agg [.sl (some 175) []]⟩),
 (25,⟨.sl 3,1,.sl (some 3) []⟩),
 (27,⟨.agg [(0,25),(1,3)],2,.agg [.sl (some 3) [],.one (.int .i64 0)]⟩),
 (29,⟨.agg [(0,24),(1,27),(3,25)],4,.agg [.agg [.sl (some 175) []],.agg [.sl (some 3) [],.one (.int .i64 0)],.sl (some 3) []]⟩),
 (30,⟨.sl 130,1,.sl (some 130) []⟩),
 (31,⟨.sl 111,1,.sl (some 111) []⟩),
 (33,⟨.agg [(0,3),(1,30),(2,31)],3,.agg [.one (.int .i64 0),.sl (some 130) [],.sl (some 111) []]⟩),
 (34,⟨.sl 93,1,.sl (some 93) []⟩),
 (36,⟨.agg [(0,29),(4,33),(7,34),(8,3),(9,31)],10,.agg [.agg [.agg [.sl (some 175) []],.agg [.sl (some 3) [],.one (.int .i64 0)],.sl (some 3) []],.agg [.one (.int .i64 0),.sl (some 130) [],.sl (some 111) []],.sl (some 93) [],.one (.int .i64 0),.sl (some 111) []]⟩),
 (38,⟨.sl 66,1,.sl (some 66) []⟩),
 (40,⟨.sl 160,1,.sl (some 160) []⟩),
 (42,⟨.agg [(0,40)],1,.agg [.sl (some 160) []]⟩),
 (43,⟨.agg [(0,25),(1,3)],2,.agg [.sl (some 3) [],.one (.int .i64 0)]⟩),
 (45,⟨.agg [(0,42),(1,43),(3,25)],4,.agg [.agg [.sl (some 160) []],.agg [.sl (some 3) [],.one (.int .i64 0)],.sl (some 3) []]⟩),
 (46,⟨.sl 74,1,.sl (some 74) []⟩),
 (47,⟨.sl 102,1,.sl (some 102) []⟩),
 (49,⟨.agg [(0,3),(1,46),(2,47)],3,.agg [.one (.int .i64 0),.sl (some 74) [],.sl (some 102) []]⟩),
 (50,⟨.sl 104,1,.sl (some 104) []⟩),
 (52,⟨.agg [(0,45),(4,49),(7,50),(8,3),(9,47)],10,.agg [.agg [.agg [.sl (some 160) []],.agg [.sl (some 3) [],.one (.int .i64 0)],.sl (some 3) []],.agg [.one (.int .i64 0),.sl (some 74) [],.sl (some 102) []],.sl (some 104) [],.one (.int .i64 0),.sl (some 102) []]⟩),
 (66,⟨.agg [(0,3),(1,3)],2,.agg [.one (.int .i64 0),.one (.int .i64 0)]⟩),
 (72,⟨.sl 9,1,.sl (some 9) []⟩),
 (74,⟨.agg [(0,3),(1,3),(2,3),(3,72)],4,.agg [.one (.int .i64 0),.one (.int .i64 0),.one (.int .i64 0),.sl (some 9) []]⟩),
 (93,⟨.agg [(0,3),(1,25)],2,.agg [.one (.int .i64 0),.sl (some 3) []]⟩),
 (96,⟨.sl 25,1,.sl (some 25) []⟩),
 (102,⟨.agg [(0,3),(1,3),(2,4),(3,3)],4,.agg [.one (.int .i64 0),.one (.int .i64 0),.one (.bool false),.one (.int .i64 0)]⟩),
 (104,⟨.agg [(0,3),(1,25)],2,.agg [.one (.int .i64 0),.sl (some 3) []]⟩),
 (111,⟨.agg [(0,3),(1,3),(2,4),(3,3)],4,.agg [.one (.int .i64 0),.one (.int .i64 0),.one (.bool false),.one (.int .i64 0)]⟩),
 (130,⟨.agg [(0,3),(1,3),(2,3),(3,72)],4,.agg [.one (.int .i64 0),.one (.int .i64 0),.one (.int .i64 0),.sl (some 9) []]⟩),
 (136,⟨.sl 189,1,.sl (some 189) []⟩),
 (139,⟨.agg [(0,25),(1,3),(2,4),(3,3)],4,.agg [.sl (some 3) [],.one (.int .i64 0),.one (.bool false),.one (.int .i64 0)]⟩),
 (158,⟨.sl 215,1,.sl (some 215) []⟩),
 (160,⟨.agg [(0,158)],1,.agg [.sl (some 215) []]⟩),
 (173,⟨.sl 291,1,.sl (some 291) []⟩),
 (175,⟨.agg [(0,173)],1,.agg [.sl (some 291) []]⟩),
 (189,⟨.agg [(0,3),(1,3),(2,4)],3,.agg [.one (.int .i64 0),.one (.int .i64 0),.one (.bool false)]⟩),
 (203,⟨.sl 249,1,.sl (some 249) []⟩),
 (215,⟨.agg [(0,3),(1,3),(2,4)],3,.agg [.one (.int .i64 0),.one (.int .i64 0),.one (.bool false)]⟩),
 (218,⟨.sl 5,1,.sl (some 5) []⟩),
 (233,⟨.agg [(0,96),(1,136),(2,25),(3,3),(4,3)],5,.agg [.sl (some 25) [],.sl (some 189) [],.sl (some 3) [],.one (.int .i64 0),.one (.int .i64 0)]⟩),
 (237,⟨.sl 239,1,.sl (some 239) []⟩),
 (239,⟨.sl 4,1,.sl (some 4) []⟩),
 (242,⟨.agg [(0,3),(1,3),(2,3)],3,.agg [.one (.int .i64 0),.one (.int .i64 0),.one (.int .i64 0)]⟩),
 (249,⟨.agg [(0,3),(1,3),(2,3),(3,3)],4,.agg [.one (.int .i64 0),.one (.int .i64 0),.one (.int .i64 0),.one (.int .i64 0)]⟩),
 (260,⟨.arr 400 3,400,.agg (List.replicate 400 (.one (.int .i64 0)))⟩),
 (264,⟨.int .u64,1,.one (.int .u64 0)⟩),
 (281,⟨.ifc,1,.one .nilIface⟩),
 (291,⟨.agg [(0,3),(1,3),(2,4)],3,.agg [.one (.int .i64 0),.one (.int .i64 0),.one (.bool false)]⟩),
 (301,⟨.arr 2 3,2,.agg (List.replicate 2 (.one (.int .i64 0)))⟩),
 (302,⟨.arr 3 301,6,.agg (List.replicate 3 (.agg (List.replicate 2 (.one (.int .i64 0)))))⟩),
 (307,⟨.int .i64,1,.one (.int .i64 0)⟩),
 (334,⟨.fn,1,.one .nilFunc⟩),
 (337,⟨.fn,1,.one .nilFunc⟩),
 (368,⟨.fn,1,.one .nilFunc⟩)]
set_option maxRecDepth 10000 in
def good:∀t,Dv.Good prog T t:=avW
 ⟨⟨underlying3,t3,_,type3,rfl,rfl,rfl,rfl,by simp[Ty.isAgg],by decide,rfl⟩,
 ⟨underlying4,t4,_,type4,rfl,rfl,rfl,rfl,by simp[Ty.isAgg],by decide,rfl⟩,
 ⟨underlying5,t5,_,type5,rfl,rfl,rfl,rfl,by simp[Ty.isAgg],by decide,rfl⟩,
 ⟨underlying9,t9,_,type9,rfl,rfl,rfl,rfl,by simp[Ty.isAgg],by decide,rfl⟩,
 ⟨underlying22,t22,_,type22,rfl,rfl,rfl,rfl,by simp[Ty.isAgg],by decide,rfl⟩,
 ⟨⟨_,underlying24,rfl,lK.mem ⟨⟨by decide,t22,type22,by decide⟩,trivial⟩,stoodInHeld24⟩,t24,_,type24,rfl,rfl,rfl,rfl,by simp[Ty.isAgg],by decide,rfl⟩,
 ⟨underlying25,t25,_,type25,rfl,rfl,rfl,rfl,by simp[Ty.isAgg],by decide,rfl⟩,
 ⟨⟨_,underlying27,rfl,lK.mem ⟨⟨by decide,t25,type25,by decide⟩,⟨by decide,t3,type3,by decide⟩,trivial⟩,stoodInHeld27⟩,t27,_,type27,rfl,rfl,rfl,rfl,by simp[Ty.isAgg],by decide,rfl⟩,
 ⟨⟨_,underlying29,rfl,lK.mem ⟨⟨by decide,t24,type24,by decide⟩,⟨by decide,t27,type27,by decide⟩,⟨by decide,t25,type25,by decide⟩,trivial⟩,stoodInHeld29⟩,t29,_,type29,rfl,rfl,rfl,rfl,by simp[Ty.isAgg],by decide,rfl⟩,
 ⟨underlying30,t30,_,type30,rfl,rfl,rfl,rfl,by simp[Ty.isAgg],by decide,rfl⟩,
 ⟨underlying31,t31,_,type31,rfl,rfl,rfl,rfl,by simp[Ty.isAgg],by decide,rfl⟩,
 ⟨⟨_,underlying33,rfl,lK.mem ⟨⟨by decide,t3,type3,by decide⟩,⟨by decide,t30,type30,by decide⟩,⟨by decide,t31,type31,by decide⟩,trivial⟩,stoodInHeld33⟩,t33,_,type33,rfl,rfl,rfl,rfl,by simp[Ty.isAgg],by decide,rfl⟩,
 ⟨underlying34,t34,_,type34,rfl,rfl,rfl,rfl,by simp[Ty.isAgg],by decide,rfl⟩,
 ⟨⟨_,underlying36,rfl,lK.mem ⟨⟨by decide,t29,type29,by decide⟩,⟨by decide,t33,type33,by decide⟩,⟨by decide,t34,type34,by decide⟩,⟨by decide,t3,type3,by decide⟩,⟨by decide,t31,type31,by decide⟩,trivial⟩,stoodInHeld36⟩,t36,_,type36,rfl,rfl,rfl,rfl,by simp[Ty.isAgg],by decide,rfl⟩,
 ⟨underlying38,t38,_,type38,rfl,rfl,rfl,rfl,by simp[Ty.isAgg],by decide,rfl⟩,
 ⟨underlying40,t40,_,type40,rfl,rfl,rfl,rfl,by simp[Ty.isAgg],by decide,rfl⟩,
 ⟨⟨_,underlying42,rfl,lK.mem ⟨⟨by decide,t40,type40,by decide⟩,trivial⟩,stoodInHeld42⟩,t42,_,type42,rfl,rfl,rfl,rfl,by simp[Ty.isAgg],by decide,rfl⟩,
 ⟨⟨_,underlying43,rfl,lK.mem ⟨⟨by decide,t25,type25,by decide⟩,⟨by decide,t3,type3,by decide⟩,trivial⟩,stoodInHeld43⟩,t43,_,type43,rfl,rfl,rfl,rfl,by simp[Ty.isAgg],by decide,rfl⟩,
 ⟨⟨_,underlying45,rfl,lK.mem ⟨⟨by decide,t42,type42,by decide⟩,⟨by decide,t43,type43,by decide⟩,⟨by decide,t25,type25,by decide⟩,trivial⟩,stoodInHeld45⟩,t45,_,type45,rfl,rfl,rfl,rfl,by simp[Ty.isAgg],by decide,rfl⟩,
 ⟨underlying46,t46,_,type46,rfl,rfl,rfl,rfl,by simp[Ty.isAgg],by decide,rfl⟩,
 ⟨underlying47,t47,_,type47,rfl,rfl,rfl,rfl,by simp[Ty.isAgg],by decide,rfl⟩,
 ⟨⟨_,underlying49,rfl,lK.mem ⟨⟨by decide,t3,type3,by decide⟩,⟨by decide,t46,type46,by decide⟩,⟨by decide,t47,type47,by decide⟩,trivial⟩,stoodInHeld49⟩,t49,_,type49,rfl,rfl,rfl,rfl,by simp[Ty.isAgg],by decide,rfl⟩,
 ⟨underlying50,t50,_,type50,rfl,rfl,rfl,rfl,by simp[Ty.isAgg],by decide,rfl⟩,
 ⟨⟨_,underlying52,rfl,lK.mem ⟨⟨by decide,t45,type45,by decide⟩,⟨by decide,t49,type49,by decide⟩,⟨by decide,t50,type50,by decide⟩,⟨by decide,t3,type3,by decide⟩,⟨by decide,t47,type47,by decide⟩,trivial⟩,stoodInHeld52⟩,t52,_,type52,rfl,rfl,rfl,rfl,by simp[Ty.isAgg],by decide,rfl⟩,
 ⟨⟨_,underlying66,rfl,lK.mem ⟨⟨by decide,t3,type3,by decide⟩,⟨by decide,t3,type3,by decide⟩,trivial⟩,stoodInHeld66⟩,t66,_,type66,rfl,rfl,rfl,rfl,by simp[Ty.isAgg],by decide,rfl⟩,
 ⟨underlying72,t72,_,type72,rfl,rfl,rfl,rfl,by simp[Ty.isAgg],by decide,rfl⟩,
 ⟨⟨_,underlying74,rfl,lK.mem ⟨⟨by decide,t3,type3,by decide⟩,⟨by decide,t3,type3,by decide⟩,⟨by decide,t3,type3,by decide⟩,⟨by decide,t72,type72,by decide⟩,trivial⟩,stoodInHeld74⟩,t74,_,type74,rfl,rfl,rfl,rfl,by simp[Ty.isAgg],by decide,rfl⟩,
 ⟨⟨_,underlying93,rfl,lK.mem ⟨⟨by decide,t3,type3,by decide⟩,⟨by decide,t25,type25,by decide⟩,trivial⟩,stoodInHeld93⟩,t93,_,type93,rfl,rfl,rfl,rfl,by simp[Ty.isAgg],by decide,rfl⟩,
 ⟨underlying96,t96,_,type96,rfl,rfl,rfl,rfl,by simp[Ty.isAgg],by decide,rfl⟩,
 ⟨⟨_,underlying102,rfl,lK.mem ⟨⟨by decide,t3,type3,by decide⟩,⟨by decide,t3,type3,by decide⟩,⟨by decide,t4,type4,by decide⟩,⟨by decide,t3,type3,by decide⟩,trivial⟩,stoodInHeld102⟩,t102,_,type102,rfl,rfl,rfl,rfl,by simp[Ty.isAgg],by decide,rfl⟩,
 ⟨⟨_,underlying104,rfl,lK.mem ⟨⟨by decide,t3,type3,by decide⟩,⟨by decide,t25,type25,by decide⟩,trivial⟩,stoodInHeld104⟩,t104,_,type104,rfl,rfl,rfl,rfl,by simp[Ty.isAgg],by decide,rfl⟩,
 ⟨⟨_,underlying111,rfl,lK.mem ⟨⟨by decide,t3,type3,by decide⟩,⟨by decide,t3,type3,by decide⟩,⟨by decide,t4,type4,by decide⟩,⟨by decide,t3,type3,by decide⟩,trivial⟩,stoodInHeld111⟩,t111,_,type111,rfl,rfl,rfl,rfl,by simp[Ty.isAgg],by decide,rfl⟩,
 ⟨⟨_,underlying130,rfl,lK.mem ⟨⟨by decide,t3,type3,by decide⟩,⟨by decide,t3,type3,by decide⟩,⟨by decide,t3,type3,by decide⟩,⟨by decide,t72,type72,by decide⟩,trivial⟩,stoodInHeld130⟩,t130,_,type130,rfl,rfl,rfl,rfl,by simp[Ty.isAgg],by decide,rfl⟩,
 ⟨underlying136,t136,_,type136,rfl,rfl,rfl,rfl,by simp[Ty.isAgg],by decide,rfl⟩,
 ⟨⟨_,underlying139,rfl,lK.mem ⟨⟨by decide,t25,type25,by decide⟩,⟨by decide,t3,type3,by decide⟩,⟨by decide,t4,type4,by decide⟩,⟨by decide,t3,type3,by decide⟩,trivial⟩,stoodInHeld139⟩,t139,_,type139,rfl,rfl,rfl,rfl,by simp[Ty.isAgg],by decide,rfl⟩,
 ⟨underlying158,t158,_,type158,rfl,rfl,rfl,rfl,by simp[Ty.isAgg],by decide,rfl⟩,
 ⟨⟨_,underlying160,rfl,lK.mem ⟨⟨by decide,t158,type158,by decide⟩,trivial⟩,stoodInHeld160⟩,t160,_,type160,rfl,rfl,rfl,rfl,by simp[Ty.isAgg],by decide,rfl⟩,
 ⟨underlying173,t173,_,type173,rfl,rfl,rfl,rfl,by simp[Ty.isAgg],by decide,rfl⟩,
 ⟨⟨_,underlying175,rfl,lK.mem ⟨⟨by decide,t173,type173,by decide⟩,trivial⟩,stoodInHeld175⟩,t175,_,type175,rfl,rfl,rfl,rfl,by simp[Ty.isAgg],by decide,rfl⟩,
 ⟨⟨_,underlying189,rfl,lK.mem ⟨⟨by decide,t3,type3,by decide⟩,⟨by decide,t3,type3,by decide⟩,⟨by decide,t4,type4,by decide⟩,trivial⟩,stoodInHeld189⟩,t189,_,type189,rfl,rfl,rfl,rfl,by simp[Ty.isAgg],by decide,rfl⟩,
 ⟨underlying203,t203,_,type203,rfl,rfl,rfl,rfl,by simp[Ty.isAgg],by decide,rfl⟩,
 ⟨⟨_,underlying215,rfl,lK.mem ⟨⟨by decide,t3,type3,by decide⟩,⟨by decide,t3,type3,by decide⟩,⟨by decide,t4,type4,by decide⟩,trivial⟩,stoodInHeld215⟩,t215,_,type215,rfl,rfl,rfl,rfl,by simp[Ty.isAgg],by decide,rfl⟩,
 ⟨underlying218,t218,_,type218,rfl,rfl,rfl,rfl,by simp[Ty.isAgg],by decide,rfl⟩,
 ⟨⟨_,underlying233,rfl,lK.mem ⟨⟨by decide,t96,type96,by decide⟩,⟨by decide,t136,type136,by decide⟩,⟨by decide,t25,type25,by decide⟩,⟨by decide,t3,type3,by decide⟩,⟨by decide,t3,type3,by decide⟩,trivial⟩,stoodInHeld233⟩,t233,_,type233,rfl,rfl,rfl,rfl,by simp[Ty.isAgg],by decide,rfl⟩,
 ⟨underlying237,t237,_,type237,rfl,rfl,rfl,rfl,by simp[Ty.isAgg],by decide,rfl⟩,
 ⟨underlying239,t239,_,type239,rfl,rfl,rfl,rfl,by simp[Ty.isAgg],by decide,rfl⟩,
 ⟨⟨_,underlying242,rfl,lK.mem ⟨⟨by decide,t3,type3,by decide⟩,⟨by decide,t3,type3,by decide⟩,⟨by decide,t3,type3,by decide⟩,trivial⟩,stoodInHeld242⟩,t242,_,type242,rfl,rfl,rfl,rfl,by simp[Ty.isAgg],by decide,rfl⟩,
 ⟨⟨_,underlying249,rfl,lK.mem ⟨⟨by decide,t3,type3,by decide⟩,⟨by decide,t3,type3,by decide⟩,⟨by decide,t3,type3,by decide⟩,⟨by decide,t3,type3,by decide⟩,trivial⟩,stoodInHeld249⟩,t249,_,type249,rfl,rfl,rfl,rfl,by simp[Ty.isAgg],by decide,rfl⟩,
 ⟨underlying260,t260,_,type260,rfl,rfl,rfl,rfl,by simp[Ty.isAgg],by decide,rfl⟩,
 ⟨underlying264,t264,_,type264,rfl,rfl,rfl,rfl,by simp[Ty.isAgg],by decide,rfl⟩,
 ⟨⟨_,underlying281⟩,t281,_,type281,rfl,rfl,rfl,rfl,by simp[Ty.isAgg],by decide,rfl⟩,
 ⟨⟨_,underlying291,rfl,lK.mem ⟨⟨by decide,t3,type3,by decide⟩,⟨by decide,t3,type3,by decide⟩,⟨by decide,t4,type4,by decide⟩,trivial⟩,stoodInHeld291⟩,t291,_,type291,rfl,rfl,rfl,rfl,by simp[Ty.isAgg],by decide,rfl⟩,
 ⟨underlying301,t301,_,type301,rfl,rfl,rfl,rfl,by simp[Ty.isAgg],by decide,rfl⟩,
 ⟨underlying302,t302,_,type302,rfl,rfl,rfl,rfl,by simp[Ty.isAgg],by decide,rfl⟩,
 ⟨underlying307,t307,_,type307,rfl,rfl,rfl,rfl,by simp[Ty.isAgg],by decide,rfl⟩,
 ⟨⟨_,_,_,underlying334⟩,t334,_,type334,rfl,rfl,rfl,rfl,by simp[Ty.isAgg],by decide,rfl⟩,
 ⟨⟨_,_,_,underlying337⟩,t337,_,type337,rfl,rfl,rfl,rfl,by simp[Ty.isAgg],by decide,rfl⟩,
 ⟨⟨_,_,_,underlying368⟩,t368,_,type368,rfl,rfl,rfl,rfl,by simp[Ty.isAgg],by decide,rfl⟩,
 trivial⟩
@[go_sem] def T3:T 3=⟨.int .i64,1,.one (.int .i64 0)⟩:=rfl
@[go_sem] def T4:T 4=⟨.bool,1,.one (.bool false)⟩:=rfl
@[go_sem] def T5:T 5=⟨.int .u8,1,.one (.int .u8 0)⟩:=rfl
@[go_sem] def T9:T 9=⟨.str,1,.one (.string {data:= #[]})⟩:=rfl
@[go_sem] def T22:T 22=⟨.sl 175,1,.sl (some 175) []⟩:=rfl
@[go_sem] def T24:T 24=⟨.agg [(0,22)],1,.agg [.sl (some 175) []]⟩:=rfl
@[go_sem] def T25:T 25=⟨.sl 3,1,.sl (some 3) []⟩:=rfl
@[go_sem] def T27:T 27=⟨.agg [(0,25),(1,3)],2,.agg [.sl (some 3) [],.one (.int .i64 0)]⟩:=rfl
@[go_sem] def T29:T 29=⟨.agg [(0,24),(1,27),(3,25)],4,.agg [.agg [.sl (some 175) []],.agg [.sl (some 3) [],.one (.int .i64 0)],.sl (some 3) []]⟩:=rfl
@[go_sem] def T30:T 30=⟨.sl 130,1,.sl (some 130) []⟩:=rfl
@[go_sem] def T31:T 31=⟨.sl 111,1,.sl (some 111) []⟩:=rfl
@[go_sem] def T33:T 33=⟨.agg [(0,3),(1,30),(2,31)],3,.agg [.one (.int .i64 0),.sl (some 130) [],.sl (some 111) []]⟩:=rfl
@[go_sem] def T34:T 34=⟨.sl 93,1,.sl (some 93) []⟩:=rfl
@[go_sem] def T36:T 36=⟨.agg [(0,29),(4,33),(7,34),(8,3),(9,31)],10,.agg [.agg [.agg [.sl (some 175) []],.agg [.sl (some 3) [],.one (.int .i64 0)],.sl (some 3) []],.agg [.one (.int .i64 0),.sl (some 130) [],.sl (some 111) []],.sl (some 93) [],.one (.int .i64 0),.sl (some 111) []]⟩:=rfl
@[go_sem] def T38:T 38=⟨.sl 66,1,.sl (some 66) []⟩:=rfl
@[go_sem] def T40:T 40=⟨.sl 160,1,.sl (some 160) []⟩:=rfl
@[go_sem] def T42:T 42=⟨.agg [(0,40)],1,.agg [.sl (some 160) []]⟩:=rfl
@[go_sem] def T43:T 43=⟨.agg [(0,25),(1,3)],2,.agg [.sl (some 3) [],.one (.int .i64 0)]⟩:=rfl
@[go_sem] def T45:T 45=⟨.agg [(0,42),(1,43),(3,25)],4,.agg [.agg [.sl (some 160) []],.agg [.sl (some 3) [],.one (.int .i64 0)],.sl (some 3) []]⟩:=rfl
@[go_sem] def T46:T 46=⟨.sl 74,1,.sl (some 74) []⟩:=rfl
@[go_sem] def T47:T 47=⟨.sl 102,1,.sl (some 102) []⟩:=rfl
@[go_sem] def T49:T 49=⟨.agg [(0,3),(1,46),(2,47)],3,.agg [.one (.int .i64 0),.sl (some 74) [],.sl (some 102) []]⟩:=rfl
@[go_sem] def T50:T 50=⟨.sl 104,1,.sl (some 104) []⟩:=rfl
@[go_sem] def T52:T 52=⟨.agg [(0,45),(4,49),(7,50),(8,3),(9,47)],10,.agg [.agg [.agg [.sl (some 160) []],.agg [.sl (some 3) [],.one (.int .i64 0)],.sl (some 3) []],.agg [.one (.int .i64 0),.sl (some 74) [],.sl (some 102) []],.sl (some 104) [],.one (.int .i64 0),.sl (some 102) []]⟩:=rfl
@[go_sem] def T66:T 66=⟨.agg [(0,3),(1,3)],2,.agg [.one (.int .i64 0),.one (.int .i64 0)]⟩:=rfl
@[go_sem] def T72:T 72=⟨.sl 9,1,.sl (some 9) []⟩:=rfl
@[go_sem] def T74:T 74=⟨.agg [(0,3),(1,3),(2,3),(3,72)],4,.agg [.one (.int .i64 0),.one (.int .i64 0),.one (.int .i64 0),.sl (some 9) []]⟩:=rfl
@[go_sem] def T93:T 93=⟨.agg [(0,3),(1,25)],2,.agg [.one (.int .i64 0),.sl (some 3) []]⟩:=rfl
@[go_sem] def T96:T 96=⟨.sl 25,1,.sl (some 25) []⟩:=rfl
@[go_sem] def T102:T 102=⟨.agg [(0,3),(1,3),(2,4),(3,3)],4,.agg [.one (.int .i64 0),.one (.int .i64 0),.one (.bool false),.one (.int .i64 0)]⟩:=rfl
@[go_sem] def T104:T 104=⟨.agg [(0,3),(1,25)],2,.agg [.one (.int .i64 0),.sl (some 3) []]⟩:=rfl
@[go_sem] def T111:T 111=⟨.agg [(0,3),(1,3),(2,4),(3,3)],4,.agg [.one (.int .i64 0),.one (.int .i64 0),.one (.bool false),.one (.int .i64 0)]⟩:=rfl
@[go_sem] def T130:T 130=⟨.agg [(0,3),(1,3),(2,3),(3,72)],4,.agg [.one (.int .i64 0),.one (.int .i64 0),.one (.int .i64 0),.sl (some 9) []]⟩:=rfl
@[go_sem] def T136:T 136=⟨.sl 189,1,.sl (some 189) []⟩:=rfl
@[go_sem] def T139:T 139=⟨.agg [(0,25),(1,3),(2,4),(3,3)],4,.agg [.sl (some 3) [],.one (.int .i64 0),.one (.bool false),.one (.int .i64 0)]⟩:=rfl
@[go_sem] def T158:T 158=⟨.sl 215,1,.sl (some 215) []⟩:=rfl
@[go_sem] def T160:T 160=⟨.agg [(0,158)],1,.agg [.sl (some 215) []]⟩:=rfl
@[go_sem] def T173:T 173=⟨.sl 291,1,.sl (some 291) []⟩:=rfl
@[go_sem] def T175:T 175=⟨.agg [(0,173)],1,.agg [.sl (some 291) []]⟩:=rfl
@[go_sem] def T189:T 189=⟨.agg [(0,3),(1,3),(2,4)],3,.agg [.one (.int .i64 0),.one (.int .i64 0),.one (.bool false)]⟩:=rfl
@[go_sem] def T203:T 203=⟨.sl 249,1,.sl (some 249) []⟩:=rfl
@[go_sem] def T215:T 215=⟨.agg [(0,3),(1,3),(2,4)],3,.agg [.one (.int .i64 0),.one (.int .i64 0),.one (.bool false)]⟩:=rfl
@[go_sem] def T218:T 218=⟨.sl 5,1,.sl (some 5) []⟩:=rfl
@[go_sem] def T233:T 233=⟨.agg [(0,96),(1,136),(2,25),(3,3),(4,3)],5,.agg [.sl (some 25) [],.sl (some 189) [],.sl (some 3) [],.one (.int .i64 0),.one (.int .i64 0)]⟩:=rfl
@[go_sem] def T237:T 237=⟨.sl 239,1,.sl (some 239) []⟩:=rfl
@[go_sem] def T239:T 239=⟨.sl 4,1,.sl (some 4) []⟩:=rfl
@[go_sem] def T242:T 242=⟨.agg [(0,3),(1,3),(2,3)],3,.agg [.one (.int .i64 0),.one (.int .i64 0),.one (.int .i64 0)]⟩:=rfl
@[go_sem] def T249:T 249=⟨.agg [(0,3),(1,3),(2,3),(3,3)],4,.agg [.one (.int .i64 0),.one (.int .i64 0),.one (.int .i64 0),.one (.int .i64 0)]⟩:=rfl
@[go_sem] def T260:T 260=⟨.arr 400 3,400,.agg (List.replicate 400 (.one (.int .i64 0)))⟩:=rfl
@[go_sem] def T264:T 264=⟨.int .u64,1,.one (.int .u64 0)⟩:=rfl
@[go_sem] def T281:T 281=⟨.ifc,1,.one .nilIface⟩:=rfl
@[go_sem] def T291:T 291=⟨.agg [(0,3),(1,3),(2,4)],3,.agg [.one (.int .i64 0),.one (.int .i64 0),.one (.bool false)]⟩:=rfl
@[go_sem] def T301:T 301=⟨.arr 2 3,2,.agg (List.replicate 2 (.one (.int .i64 0)))⟩:=rfl
@[go_sem] def T302:T 302=⟨.arr 3 301,6,.agg (List.replicate 3 (.agg (List.replicate 2 (.one (.int .i64 0)))))⟩:=rfl
@[go_sem] def T307:T 307=⟨.int .i64,1,.one (.int .i64 0)⟩:=rfl
@[go_sem] def T334:T 334=⟨.fn,1,.one .nilFunc⟩:=rfl
@[go_sem] def T337:T 337=⟨.fn,1,.one .nilFunc⟩:=rfl
@[go_sem] def T368:T 368=⟨.fn,1,.one .nilFunc⟩:=rfl
def EL (P:Program):List Nat->Prop
 |[]=>True
 |f::l=>Dv.Enters P f/\EL P l
variable {f:Nat}
def EL.get {P:Program}:∀{l:List Nat},EL P l->f∈l->Dv.Enters P f
 |[],_,h=>by cases h
 |g::l,h,hm=>by
  rcases aW.1 hm with rfl|hm
  ·exact h.1
  ·exact EL.get h.2 hm
def eL:List Nat:=[5,6,7,8,9,10,11,12,13,14,15,16,17,18,19,20,21,22,23,24,25,26,27,28,29,30,31,32,33,34,35,36,37,38,39,40,41,42,43,44,45,46,47,48,49,50,51,52,53,54,55,56,57,58,59,60,61,62,63,64,65,66,67,68,69,70,71,72,73,74,75,76,77,78,79,80,81,82,83,84,85,86,87,88,89,90,91,92,93,94,95,96,97,98,99,100,101,102,103,104,105,106,107,108,109,110,111,112,113,114,115,116,117,118,119,120,121,122,123,124,125,126,127,128,129,130,131,132,133,134,135,136,137,138,139,140,141,142,143,144,145,146,147,148,149,150,151,152,153,154,155,156,157,158,159,160,161,162,163,164,165,166,167,168,169,170,171,172,173,174,175,176,177,178,179,180,181,182,183,184,185,186,187,188,189,190,191,192,193,194,195,196,197,198,199,200,201,202,203,204,205,206,207,208,209,210,211,212,213,214,215,216,217,218,219,220,221,222,223,224,225,227,228,229,230,231,233,234,235,236,237,238,239,240,241,242,243,244,245,246,247,248,249,250,251,252,253,254,255,256,257,258,259,260,261,262,263,264,265,266,267,268,269,270,271,272,273,274,275,276,277,278,279,280,281,282,283,284,285,286,287,288,289,290,291,292,293,294,295,296,297,298,299,300,301,302,303,304,305,306,307,308,309,310,311,312,313,314,315,316,317,318,319,320,321,322,323,324,325,326,327,328,329,330,331,332,333,334,335,336,337,338,339,340,341,342,343,344,345,346,347,348,349,350,351,352,353,354,357,360,361,362,363,364,365,366,367,368,369,370,373,374,376,377,378,379,380,381,382,383,384,385,386,387,388,389,390,391,392,393,394,395,396,397,398,399,400,401,402,403,433,434,435,436,437,438,439,440,460]
open Tryz in
def eLs:EL prog eL:=⟨call5,call6,call7,call8,call9,call10,call11,call12,call13,call14,call15,call16,call17,call18,call19,call20,call21,call22,call23,call24,call25,call26,call27,call28,call29,call30,call31,call32,call33,call34,call35,call36,call37,call38,call39,call40,call41,call42,call43,call44,call45,call46,call47,call48,call49,call50,call51,call52,call53,call54,call55,call56,call57,call58,call59,call60,call61,call62,call63,call64,call65,call66,call67,call68,call69,call70,call71,call72,call73,call74,call75,call76,call77,call78,call79,call80,call81,call82,call83,call84,call85,call86,call87,call88,call89,call90,call91,call92,call93,call94,call95,call96,call97,call98,call99,call100,call101,call102,call103,call104,call105,call106,call107,call108,call109,call110,call111,call112,call113,call114,call115,call116,call117,call118,call119,call120,call121,call122,call123,call124,call125,call126,call127,call128,call129,call130,call131,call132,call133,call134,call135,call136,call137,call138,call139,call140,call141,call142,call143,call144,call145,call146,call147,call148,call149,call150,call151,call152,call153,call154,call155,call156,call157,call158,call159,call160,call161,call162,call163,call164,call165,call166,call167,call168,call169,call170,call171,call172,call173,call174,call175,call176,call177,call178,call179,call180,call181,call182,call183,call184,call185,call186,call187,call188,call189,call190,call191,call192,call193,call194,call195,call196,call197,call198,call199,call200,call201,call202,call203,call204,call205,call206,call207,call208,call209,call210,call211,call212,call213,call214,call215,call216,call217,call218,call219,call220,call221,call222,call223,call224,call225,call227,call228,call229,call230,call231,call233,call234,call235,call236,call237,call238,call239,call240,call241,call242,call243,call244,call245,call246,call247,call248,call249,call250,call251,call252,call253,call254,call255,call256,call257,call258,call259,call260,call261,call262,call263,call264,call265,call266,call267,call268,call269,call270,call271,call272,call273,call274,call275,call276,call277,call278,call279,call280,call281,call282,call283,call284,call285,call286,call287,call288,call289,call290,call291,call292,call293,call294,call295,call296,call297,call298,call299,call300,call301,call302,call303,call304,call305,call306,call307,call308,call309,call310,call311,call312,call313,call314,call315,call316,call317,call318,call319,call320,call321,call322,call323,call324,call325,call326,call327,call328,call329,call330,call331,call332,call333,call334,call335,call336,call337,call338,call339,call340,call341,call342,call343,call344,call345,call346,call347,call348,call349,call350,call351,call352,call353,call354,call357,call360,call361,call362,call363,call364,call365,call366,call367,call368,call369,call370,call373,call374,call376,call377,call378,call379,call380,call381,call382,call383,call384,call385,call386,call387,call388,call389,call390,call391,call392,call393,call394,call395,call396,call397,call398,call399,call400,call401,call402,call403,call433,call434,call435,call436,call437,call438,call439,call440,call460,trivial⟩
def okF (f:Nat):Bool:=decide (f<512)&& !([0,1,2,3,4,226,232,355,356,358,359,371,372,375,404,405,406,407,408,409,410,411,412,413,414,415,416,417,418,419,420,421,422,423,424,425,426,427,428,429,430,431,432,441,442,443,444,445,446,447,448,449,450,451,452,453,454,455,456,457,458,459,461,462,463,464,465,466,467,468,469,470,471,472,473,474,475,476,477,478,479,480,481,482,483,484,485,486,487,488,489,490,491,492,493,494,495,496,497,498,499,500,501,502,503,504,505,506,507,508,509,510,511].contains f)
def aE3 (h:okF f=true):f∈eL:=by
 have h1:(List.range 512).all (fun f=> !okF f||eL.contains f)=true:=by kernel_rfl
 have h2:f<512:=by simp only[okF,k_Bool_and_eq_true,decide_eq_true_eq]at h;exact h.1
 have h3:=aI.1 h1 f (bB.2 h2);rw[h]at h3;simpa using h3
@[go_sem] def enF (h:okF f=true):Dv.Enters prog f:=EL.get eLs (aE3 h)
attribute [go_sem] okF
def aCO {M:List (Nat×Nat)}{L:List (Nat×TyE)}{t:Nat}(h1:M.lookup t=none)(h2:∀p∈L,p.1≠t):aCN M L t=⟨.no,0,.any 0⟩:=by
 unfold aCN;rw[h1]
 induction L with
 |nil=>rfl
 |cons p L ih=>
  obtain⟨u,e⟩:=p;have h3:=h2 (u,e) iW;simp only[tab];rw[if_neg (by simpa using k_Ne_symm h3)];exact ih fun p hp=>h2 p (aV _ hp)
def aiA :∀{M:List (Nat×Nat)},((M.map fun p=>p.1).contains f)=false->M.lookup f=none
 |[],_=>rfl
 |(a,b)::M,h=>by
  simp only[fC,List.contains_cons,Bool.or_eq_false_iff]at h;rw[List.lookup,h.1];exact aiA h.2
@[go_sem] def muF (h1:1000000<=f)(h2:([1000011,1000012,1000033,1000034,1000035,1000036,1000068,1000069,1000070,1000071,1000114,1000115,1000189,1000196,1000225,1000263,1000268,1000281,1000285,1000310,1000323,1000327,1000347,1000376,1000390,1000392,1000393,1000435].contains f)=false):T f=⟨.no,0,.any 0⟩:=by
 unfold T;refine aCO (aiA h2) fun p hp e=> ?_;have h3:=fun h=>aI (p:=fun q:Nat×TyE=>decide (q.1<1000000))|>.1 h p hp;have h4:=h3 (by kernel_rfl);simp only[decide_eq_true_eq]at h4;omega
@[go_sem] def mu11:T 1000011=⟨.no,1001,.any 0⟩:=rfl
@[go_sem] def mu12:T 1000012=⟨.no,1,.any 0⟩:=rfl
@[go_sem] def mu33:T 1000033=⟨.no,1001,.any 0⟩:=rfl
@[go_sem] def mu34:T 1000034=⟨.no,1001,.any 0⟩:=rfl
@[go_sem] def mu35:T 1000035=⟨.no,1001,.any 0⟩:=rfl
@[go_sem] def mu36:T 1000036=⟨.no,1,.any 0⟩:=rfl
@[go_sem] def mu68:T 1000068=⟨.no,1001,.any 0⟩:=rfl
@[go_sem] def mu69:T 1000069=⟨.no,1001,.any 0⟩:=rfl
@[go_sem] def mu70:T 1000070=⟨.no,1,.any 0⟩:=rfl
@[go_sem] def mu71:T 1000071=⟨.no,1,.any 0⟩:=rfl
@[go_sem] def mu114:T 1000114=⟨.no,1,.any 0⟩:=rfl
@[go_sem] def mu115:T 1000115=⟨.no,1,.any 0⟩:=rfl
@[go_sem] def mu189:T 1000189=⟨.no,1,.any 0⟩:=rfl
@[go_sem] def mu196:T 1000196=⟨.no,1,.any 0⟩:=rfl
@[go_sem] def mu225:T 1000225=⟨.no,1,.any 0⟩:=rfl
@[go_sem] def mu263:T 1000263=⟨.no,1,.any 0⟩:=rfl
@[go_sem] def mu268:T 1000268=⟨.no,1,.any 0⟩:=rfl
@[go_sem] def mu281:T 1000281=⟨.no,1001,.any 0⟩:=rfl
@[go_sem] def mu285:T 1000285=⟨.no,1,.any 0⟩:=rfl
@[go_sem] def mu310:T 1000310=⟨.no,1,.any 0⟩:=rfl
@[go_sem] def mu323:T 1000323=⟨.no,1,.any 0⟩:=rfl
@[go_sem] def mu327:T 1000327=⟨.no,1,.any 0⟩:=rfl
@[go_sem] def mu347:T 1000347=⟨.no,1,.any 0⟩:=rfl
@[go_sem] def mu376:T 1000376=⟨.no,1,.any 0⟩:=rfl
@[go_sem] def mu390:T 1000390=⟨.no,1000,.any 0⟩:=rfl
@[go_sem] def mu392:T 1000392=⟨.no,1000,.any 0⟩:=rfl
@[go_sem] def mu393:T 1000393=⟨.no,1000,.any 0⟩:=rfl
@[go_sem] def mu435:T 1000435=⟨.no,1000,.any 0⟩:=rfl
def aI8:T 1000027=⟨.no,0,.any 0⟩:=rfl
def aIT:Dv.Enters prog 27:=call27
def aJ0:T 1000040=⟨.no,0,.any 0⟩:=rfl
def aJY:Dv.Enters prog 40:=call40
def mu107:T 1000107=⟨.no,0,.any 0⟩:=rfl
def en107:Dv.Enters prog 107:=call107
def aI4:T 1000130=⟨.no,0,.any 0⟩:=rfl
def aIO:Dv.Enters prog 130:=call130
def aGC:T 1000190=⟨.no,0,.any 0⟩:=rfl
def aF6:Dv.Enters prog 190:=call190
def aI5:T 1000192=⟨.no,0,.any 0⟩:=rfl
def aIP:Dv.Enters prog 192:=call192
def aI6:T 1000215=⟨.no,0,.any 0⟩:=rfl
def aIQ:Dv.Enters prog 215:=call215
def aIR:Dv.Enters prog 228:=call228
def aGD:T 1000259=⟨.no,0,.any 0⟩:=rfl
def aF7:Dv.Enters prog 259:=call259
def aI7:T 1000264=⟨.no,0,.any 0⟩:=rfl
def aIS:Dv.Enters prog 264:=call264
def aI9:T 1000282=⟨.no,0,.any 0⟩:=rfl
def aIU:Dv.Enters prog 282:=call282
def aJA:T 1000298=⟨.no,0,.any 0⟩:=rfl
def aIV:Dv.Enters prog 298:=call298
def aJB:T 1000300=⟨.no,0,.any 0⟩:=rfl
def aIW:Dv.Enters prog 300:=call300
def aJC:T 1000326=⟨.no,0,.any 0⟩:=rfl
def aIX:Dv.Enters prog 326:=call326
def aJD:T 1000387=⟨.no,0,.any 0⟩:=rfl
def aIY:Dv.Enters prog 387:=call387
def aJE:T 1000396=⟨.no,0,.any 0⟩:=rfl
def aIZ:Dv.Enters prog 396:=call396
def aJF:T 1000434=⟨.no,0,.any 0⟩:=rfl
def aI0:Dv.Enters prog 434:=call434
abbrev Fk (f:FuncId)(ds:List D)(r:S):Prop:=fK prog f ds fun r'=>r'=r
end Go.Proofs.YtnlkiflcbknaaaaGreatDoor
end
section
namespace Go.Dv
open Go.RowKit Go.ChangeShapes
variable {fs:Array Field}
section
variable {H:Type}{enc:TypeId×Value->H}{P:Program}{W:World}{t e:TypeId}{cs:List Value}{k:Nat}
def Tr (enc:TypeId×Value->H)(P:Program)(W:World)(t:TypeId)(cs:List Value):Prop:=∃fuel x,DataW.trod enc P W 0 (fun _=>true) true fuel t cs=some x
def Rd (P:Program)(W:World)(d:D)(cs:List Value):Prop:=∀l,R P W (fun _=>none) d l cs
def open_int (ht:P.underlying t=some (.int .i64))(h:Tr enc P W t cs):∃n,Rd P W (dI n) cs:=by
 obtain⟨f,x,h⟩:=h;obtain⟨n,rfl,_⟩:=DataW.trod_int ht h;exact⟨n,fun l=>by simp[R,Value.oneCell']⟩
def open_bool (ht:P.underlying t=some .bool)(h:Tr enc P W t cs):∃b,Rd P W (dB b) cs:=by
 obtain⟨f,x,h⟩:=h;obtain⟨n,rfl,_⟩:=DataW.trod_bool ht h;exact⟨n,fun l=>by simp[R,Value.oneCell']⟩
def aBV (ht:P.underlying t=some .string)(h:Tr enc P W t cs):∃s:Str,s.length<=9223372036854775807/\Rd P W (dS s) cs:=by
 obtain⟨f,x,h⟩:=h;obtain⟨n,rfl,_,hz⟩:=DataW.trod_string ht h;obtain⟨s,rfl⟩:∃s:Str,n=⟨s.toArray⟩:=⟨n.data.toList,by rw[←aIJ n]⟩;rw[ba_size]at hz;have h2:maxLen=9223372036854775807:=rfl;exact⟨s,by omega,fun l=>by simp only[R];exact⟨trivial,rfl⟩⟩
def zG (ht:P.underlying t=some (.struct fs))(h:Tr enc P W t cs)(i:Nat)(f:Field)(hf:fs[i]?=some f)(o k:Nat)(ho:f.offset=o)(hk:P.cellsOf f.type=k):
  Tr enc P W f.type ((cs.drop o).take k):=by
 obtain⟨fu,x,h⟩:=h;obtain⟨xs,n,_,_,_,hlen,hfs⟩:=DataW.trod_struct ht h;have h1:=hfs i f hf;have h2:i<xs.length:=by rw[hlen];exact(bP.1 hf).1
 rw[ho,hk]at h1;exact⟨n,xs[i],by rw[h1];simp[h2]⟩
def zH (ht:P.underlying t=some (.struct fs)){n:Nat}(hn:P.cellsOf t=n)(h:Tr enc P W t cs):cs.length<=n:=by
 obtain⟨fu,x,h⟩:=h;obtain⟨xs,m,_,_,hl,_,_⟩:=DataW.trod_struct ht h;omega
def KA {n:Nat}(h:cs.length<=n)(l:List Nat)(i:Nat):Ra P W (fun _=>none) [] l i (cs.drop n):=by
 simp only[Ra];exact bO h
def jQ {x:D}{xs:List D}{o k:Nat}(h1:Rd P W x ((cs.drop o).take k))(h2:∀l i,Ra P W (fun _=>none) xs l i (cs.drop (o+k)))(l:List Nat)(i:Nat):Ra P W (fun _=>none) (x::xs) l i (cs.drop o):=by
 simp only[Ra];exact⟨_,_,by rw[←List.drop_drop];exact(dL k (cs.drop o)).symm,(h1 []).len,h1 _,h2 _ _⟩
def KC {xs:List D}(h:∀l i,Ra P W (fun _=>none) xs l i (cs.drop 0)):Rd P W (.agg xs) cs:=fun l=>by
 simp only[R];exact h l 0
def aGG {C:Array Value}:∀(xs:List D) (l:List Nat) (i0 off:Nat),(∀i y,xs[i]?=some y->∃vs:List Value,vs.length=k/\(∀j,j<k->C[off+i*k+j]?=vs[j]?)/\Rd P W y vs)->Rs P W (fun _=>none) xs l i0 C off k
 |[],_,_,_,_=>by simp only[Rs]
 |x::xs,l,i0,off,h=>by
  obtain⟨vs,h1,h2,h3⟩:=h 0 x rfl;simp only[Rs];refine⟨vs,?_,h1,fun j hj=>by simpa using h2 j hj,h3 _,aGG xs l (i0+1) (off+k) fun i y hy=> ?_⟩
  ·rw[←(h3 []).len];exact h1
  ·obtain⟨vs,h1,h2,h3⟩:=h (i+1) y (by simpa using hy);exact⟨vs,h1,fun j hj=>by have:=h2 j hj;rwa [show off+k+i*k+j=off+(i+1)*k+j by rw[Nat.succ_mul];omega],h3⟩
def au2 {b o:Nat}{v:Value}{C:Array Value}{e:TypeId}{fz:Nat×Nat}(hh:W.heap[b]?=some (.cells C e fz))(h:W.cell? ⟨b,o,none⟩=some v):C[o]?=some v:=by
 unfold World.cell? at h;simpa[hh]using h
def avZ {b o:Nat}{v:Value}(h:W.cell? ⟨b,o,none⟩=some v):∃C e fz,W.heap[b]?=some (.cells C e fz):=by
 unfold World.cell? at h;split at h
 ·rename_i C e fz hh;exact⟨C,e,fz,hh⟩
 ·simp at h
def MV {α:Type}{f:α->D}{Q:α->Prop}(ht:P.underlying t=some (.slice e)) (hk:P.cellsOf e=k) (hk0:0<k)
  (hR:∀vs,Tr enc P W e vs->∃y,Q y/\Rd P W (f y) vs) (h:Tr enc P W t cs):
  ∃ys:List α,(ys.length<=9223372036854775807/\∀y∈ys,Q y)/\Rd P W (.sl none (ys.map f)) cs:=by
 obtain⟨fu,x,h⟩:=h;have h9:maxLen=9223372036854775807:=rfl;rcases DataW.trod_slice ht h with⟨rfl,_⟩|⟨a,len,cap,elems,rest,n,_,rfl,_,_,hl,hm,hlen,hel,_,_⟩
 ·exact⟨[],⟨by simp,by simp⟩,fun l=>by simp only[R];exact⟨none,0,rfl,by simp,by omega,.inl ⟨rfl,rfl,rfl⟩⟩⟩
 ·have each:∀i:Fin len,∃y:α,∃vs:List Value,Q y/\vs.length=k/\(∀j,(hj:j<vs.length)->W.cell? ((a.add (i.1*k)).add j)=some vs[j])/\Rd P W (f y) vs:=by
   intro i;have h1:=hel i.1 i.2;have h2:i.1<elems.length:=by rw[hlen];exact i.2
   rw[hk,aB h2]at h1;obtain⟨vs,hvs,htr⟩:=Option.bind_eq_some_iff.1 h1;obtain⟨y,hq,hy⟩:=hR _ ⟨_,_,htr⟩
   have hc:(List.range k).mapM (fun j=>W.cell? ((a.add (i.1*k)).add j))=some vs:=by
    unfold World.cells? at hvs;rw[if_pos (Nat.zero_le _)]at hvs;exact hvs
   have hvl:vs.length=k:=by rw[mapM_some_length hc,List.length_range]
   refine⟨y,vs,hq,hvl,fun j hj=> ?_,hy⟩;have h3:=mapM_some_get hc j j (by rw[wF (by omega)]);rw[h3];simp[hj]
  obtain⟨g,hg⟩:=Classical.axiomOfChoice each;refine⟨List.ofFn g,⟨by simp;omega,fun y hy=> ?_⟩,fun l=> ?_⟩
  ·obtain⟨i,rfl⟩:=List.mem_ofFn.1 hy;exact(hg i).choose_spec.1
  ·simp only[R];refine⟨some a,cap,by simp,by simp;omega,hm,?_⟩;by_cases h0:len=0
   ·refine .inr (.inl ⟨by simp,?_⟩);apply bD;simp[h0]
   ·obtain⟨vs0,_,g1,g2,_⟩:=hg ⟨0,by omega⟩;have hs:=World.cell?_spot (g2 0 (by omega));obtain⟨b,o,sp⟩:=a;obtain rfl:sp=none:=by simpa[Addr.add]using hs
    obtain⟨C,e',fz,hh⟩:=avZ (by simpa[Addr.add]using g2 0 (by omega));refine .inr (.inr ⟨b,o,k,C,e',fz,rfl,hh,by simp,by simp,aGG _ _ _ _ fun i y hy=> ?_⟩);rw[aQ,aL]at hy;obtain⟨y',hy,rfl⟩:=hy;obtain⟨hi,rfl⟩:=aD.1 hy;rw[List.getElem_ofFn];obtain⟨vs,_,h1,h2,h3⟩:=hg ⟨i,by simpa using hi⟩;refine⟨vs,h1,fun j hj=> ?_,h3⟩;have h5:=h2 j (by omega);rw[Addr.add_lit,Addr.add_lit]at h5;rw[au2 hh h5,aB (by omega)]
def aGL {xs:List D}{cs:Array Value}(h:Rd P W (.agg xs) cs.toList):V P W (fun _=>none) (.agg xs) [] (.agg cs):=by
 simp only[V];exact⟨cs,rfl,h []⟩
end
end Go.Dv
end
section
namespace Go.Dv
open Go.RowKit Go.Pl
variable [lG]
def fMs {P:Program}{T:TypeId->TyE}{f:FuncId}{fn:Func}{c:Code}{n:Nat}{rs:List ResultVar}{ds:List D}{m:Nat}{dm:D}{Q:S->D->Prop}[hG:wQ P T] (sp:List Nat) (hn':fn.ntmps=n) (h:∀w0 ow0 v,@rY _ P T n w0 ow0 (some (m,v)) sp ⟨c⟩ ((argSt ds).put m (.own dm)) ⟨endM T rs m Q⟩) (hf:P.funcs[f]?=some fn:=by rfl)
  (hb:fn.body=some c:=by rfl) (hr:fn.results=rs.toArray:=by rfl) (hd':∀v,noC (some (m,v)) c=true:=by intro;rfl) (hn:n<=1000000:=by decide) (hd:ds.length<=n:=by simp):FO P f ds m dm Q:=azB hG.g hf hb hn' hn hd hr fun w0 ow0 v=>h w0 ow0 v (hd' v)
end Go.Dv
end
section
namespace Go.Dv
open Go.RowKit
variable [lG]
inductive OT where
 |fin
 |no
 |st (i:Nat) (t alt:OT)
def OT.heads:OT->List Nat
 | .st i _ alt=>i::alt.heads
 |_=>[]
def OT.depth:OT->Nat
 | .st _ t alt=>max (t.depth+1) alt.depth
 |_=>0
def OT.cov (md:Region.Mode)(ops:Array Oper)(listed:Array Bool)(t:OT):Bool:=match t with
 | .no=>false
 |t=>(Region.ready md ops listed).all fun i=>t.heads.contains i
def OT.ok (md:Region.Mode)(ops:Array Oper):OT->Array Bool->Bool
 | .fin,_=>true
 | .no,_=>true
 | .st i t alt,l=>(Region.ready md ops l).contains i&&t.cov md ops (l.setIfInBounds i true)&&t.ok md ops (l.setIfInBounds i true)&&alt.ok md ops l
section
variable {P:Program}{T:TypeId->TyE}{n:Nat}{ops:Array Oper}{md:Region.Mode}{ft:List (Nat×List Nat)}
def QT (P:Program)(T:TypeId->TyE)(n:Nat)(ft:List (Nat×List Nat))(ops:Array Oper)(AK:List Nat):OT->St->(St->Prop)->Prop
 | .fin,s,K=>K s
 | .no,_,_=>True
 | .st i t alt,s,K=>(match ops[i]? with
  |some o=>QF P T n ft [] ops [o] i AK s (fun s'=> @frK s' ⟨fun s'=>QT P T n ft ops AK t s' K⟩)
  |none=>False)/\QT P T n ft ops AK alt s K
end
section
variable {P:Program}{T:TypeId->TyE}{n:Nat}{w0:World}{ow0:Own}{p:Pin}{sp:List Nat}{s:St}{K:Exit->St->Prop}
end
attribute [go_sem] QT
section
variable {P:Program}{T:TypeId->TyE}{n:Nat}{ops:Array Oper}{md:Region.Mode}{p:Pin}{w0:World}{ow0:Own}
def QO (P:Program)(T:TypeId->TyE)(n:Nat)(ops:Array Oper):OT->St->(St->Prop)->Prop
 | .fin,s,K=>K s
 | .no,_,_=>True
 | .st i t alt,s,K=>(match ops[i]? with
  |some o=>vcL P T n ops [o] s (fun s'=> @frK s' ⟨fun s'=>QO P T n ops t s' K⟩)
  |none=>False)/\QO P T n ops alt s K
def aHI {o:Oper}{i:Nat}(ho:ops[i]?=some o) {s:St}{K:St->Prop}{Q:Exit->Act->World->Prop}{F:Act->World->Prop}(hd:sI p o=true) (h:OkL P n w0 ow0 ops [o] s K) {a:Act}{w:World}(hR:Rel P n w0 ow0 s a w) (hp:Pinned p a)
  (hF:∀s' a' w',K s'->Rel P n w0 ow0 s' a' w'->Pinned p a'->F a' w'):wpOp P ops Q i F a w:=by
 have hg:=Q8 hR h;unfold wpOp;rw[ho];simp only;split
 ·rename_i hw;rw[if_pos hw]at hg;have h1:=hg a w hR (fun a' w'=>∃s',OkL P n w0 ow0 ops [] s' K/\Rel P n w0 ow0 s' a' w') Q fun s' a' w' hK hR'=>⟨s',hK,hR'⟩;exact .inl (tV (fun a' w' hh=>by obtain⟨⟨s',hK,hR'⟩,hp'⟩:=hh;exact hF s' a' w' hK hR' hp') (aaC hp hd h1))
 ·rename_i hw;rw[if_neg hw]at hg;obtain⟨ow,hf⟩:=hR;exact hF _ _ w hg.2 ⟨ow,hf.aHY hg.1⟩ (hp.put hd)
def aJP (hG:∀t,Good P T t)(hd:∀o∈ops.toList,sI p o=true){K:St->Prop}{Q:Exit->Act->World->Prop}(hQ:∀s' a' w',K s'->Rel P n w0 ow0 s' a' w'->Pinned p a'->Q .normal a' w'):∀(t:OT),
  (∀(listed:Array Bool) (s:St) (a:Act) (w:World) (fuel:Nat),t.ok md ops listed=true->t.depth<=fuel+1->QO P T n ops t s K->Rel P n w0 ow0 s a w->Pinned p a->∀i∈t.heads,wpOp P ops Q i (wpAny P md ops Q fuel (listed.setIfInBounds i true)) a w)/\
  (∀(listed:Array Bool) (s:St) (a:Act) (w:World) (fuel:Nat),t.cov md ops listed=true->t.ok md ops listed=true->t.depth<=fuel->QO P T n ops t s K->Rel P n w0 ow0 s a w->Pinned p a->wpAny P md ops Q fuel listed a w):=by
 intro t
 induction t with
 |fin=>
  refine⟨fun _ _ _ _ _ _ _ _ _ _ i hi=>by simp[OT.heads]at hi,fun listed s a w fuel hc _ _ h hR hp=> ?_⟩
  have h0:Region.ready md ops listed=[]:=by
   cases hr:Region.ready md ops listed with
   |nil=>rfl
   |cons x l=>simp[OT.cov,OT.heads,hr]at hc
  cases fuel with
  |zero=>exact⟨h0,hQ s a w h hR hp⟩
  |succ fuel=>exact⟨fun _=>hQ s a w h hR hp,fun i hi=>by rw[h0]at hi;cases hi⟩
 |no=>exact⟨fun _ _ _ _ _ _ _ _ _ _ i hi=>by simp[OT.heads]at hi,fun _ _ _ _ _ hc=>by simp[OT.cov]at hc⟩
 |st j t alt iht iha=>
  have hAA:∀(listed:Array Bool) (s:St) (a:Act) (w:World) (fuel:Nat),(OT.st j t alt).ok md ops listed=true->(OT.st j t alt).depth<=fuel+1->QO P T n ops (.st j t alt) s K->Rel P n w0 ow0 s a w->Pinned p a->∀i∈(OT.st j t alt).heads,wpOp P ops Q i (wpAny P md ops Q fuel (listed.setIfInBounds i true)) a w:=by
   intro listed s a w fuel hok hdp h hR hp i hi;simp only[OT.ok,k_Bool_and_eq_true]at hok;simp only[OT.depth]at hdp;unfold QO at h;simp only[OT.heads,aW]at hi;by_cases hij:i=j
   ·subst hij;have h1:=h.1;cases ho:ops[i]? with
    |none=>rw[ho]at h1;exact h1.elim
    |some o=>
     rw[ho]at h1
     have hm:o∈ops.toList:=by
      obtain⟨hlt,he⟩:=bP.1 ho;rw[←he];simp
     exact aHI ho (hd o hm) (ES hG _ _ _ h1) hR hp fun s' a' w' hK hR' hp'=>iht.2 _ s' a' w' fuel hok.1.1.2 hok.1.2 (by omega) hK hR' hp'
   ·exact iha.1 listed s a w fuel hok.2 (by omega) h.2 hR hp i (hi.resolve_left hij)
  refine⟨hAA,fun listed s a w fuel hc hok hdp h hR hp=> ?_⟩;cases fuel with
  |zero=>simp[OT.depth]at hdp
  |succ fuel=>
   refine⟨fun h0=> ?_,fun i hi=> ?_⟩
   ·simp only[OT.ok,k_Bool_and_eq_true]at hok;have:=hok.1.1.1;rw[h0]at this;simp at this
   ·simp only[OT.cov,aI]at hc;exact hAA listed s a w fuel hok hdp h hR hp i (by simpa using hc i hi)
def aHS (hs:List Nat)(t:OT)(ops:Array Oper):Bool:=
 Region.noSelect ops&&PV .any ops hs (Array.replicate ops.size false)&&
 t.cov .any ops (VD hs (Array.replicate ops.size false))&&t.ok .any ops (VD hs (Array.replicate ops.size false))&&decide (t.depth+hs.length=ops.size)
def aBI (hG:∀t,Good P T t) {s:St}{K:Exit->St->Prop}{id:Nat}{hs:List Nat}{t:OT}(hm:P.follows .mixedOrders=true) (hB:aHS hs t ops=true)
  (h:QM P T n ops hs s fun s'=>QO P T n ops t s' (fun s'=>K .normal s')) (hd:rX p ops.toList=true):OkC P n w0 ow0 p (.region id ops true) s K:=by
 simp only[aHS,k_Bool_and_eq_true,decide_eq_true_eq]at hB;obtain⟨⟨⟨⟨hB1,hB2⟩,hB4⟩,hB5⟩,hB8⟩:=hB;intro a w hR hp Q hQ;refine wp_mono (Q:=fun e a w=>match e with| .normal=>Q .normal a w|_=>False) ?_ fun e a w he=>(by cases e<;>first|exact he|exact he.elim);have hR2:Rel P n w0 ow0 s a {w with drawn:=w.drawn+1}:=by obtain⟨ow,hf⟩:=hR;exact⟨ow,hf.drew⟩
 refine wp_region_any hm ?_;obtain⟨s1,a1,g1,g3,g4,g5⟩:=ae4 (md:= .any) (ops:=ops) (Q:=fun e a w=>match e with| .normal=>Q .normal a w|_=>False) hG (fun c a w h=>h) (noSelect_spec hB1) (rX.one hd) hs _ _ _ hB2 h hR2 hp;have g6:=g5 t.depth;rw[hB8]at g6;refine g6 ?_;exact(aJP (md:= .any) hG (rX.one hd) (K:=fun s'=>K .normal s') (Q:=fun e a w=>match e with| .normal=>Q .normal a w|_=>False) (fun s' a' w' hK hR' hp'=>hQ _ _ _ _ hK hR' hp') t).2 _ s1 a1 _ _ hB4 hB5 (k_Nat_le_refl _) g1 g3 g4
def wdx [hG:wQ P T] {sp:List Nat}{s:St}{K:Exit->St->Prop}{i:Nat}(hs:List Nat) (t:OT) (h:QM P T n ops hs s fun s'=>QO P T n ops t s' (fun s'=> @OL s' ⟨K⟩))
  (hB:aHS hs t ops=true:=by kernel_rfl) (hm:P.follows .mixedOrders=true:=by rfl): @rY _ P T n w0 ow0 p sp ⟨.region i ops true⟩ s ⟨K⟩:=fun hd=>aBI hG.g hm hB h hd
def QB {Q:Exit->Act->World->Prop}{l2:List Oper}:∀(l:List Oper) (s:St) (K:St->Prop),OkL P n w0 ow0 ops l s K->(∀o∈l,sI p o=true)->∀a w,Rel P n w0 ow0 s a w->Pinned p a->(∀s' a' w',K s'->Rel P n w0 ow0 s' a' w'->Pinned p a'->wpList P ops Q l2 a' w')->wpList P ops Q (l++l2) a w
 |[],s,K,h,_,a,w,hR,hp,hQ=>hQ s a w h hR hp
 |o::l,s,K,h,hd,a,w,hR,hp,hQ=>by
  have hg:=Q8 hR h;rw[fZ];unfold wpList;split
  ·rename_i hw;rw[if_pos hw]at hg;have h1:=hg a w hR (fun a' w'=>∃s',OkL P n w0 ow0 ops l s' K/\Rel P n w0 ow0 s' a' w') Q fun s' a' w' hK hR'=>⟨s',hK,hR'⟩;exact .inl (tV (fun a' w' hh=>by obtain⟨⟨s',hK,hR'⟩,hp'⟩:=hh;exact QB l s' K hK (fun o ho=>hd o (aV _ ho)) a' w' hR' hp' hQ) (aaC hp (hd o (by simp)) h1))
  ·rename_i hw;rw[if_neg hw]at hg;obtain⟨ow,hf⟩:=hR;exact QB l _ K hg.2 (fun o ho=>hd o (aV _ ho)) _ w ⟨ow,hf.aHY hg.1⟩ (hp.put (hd o (by simp))) hQ
def wtc [hG:wQ P T]{sp:List Nat}{s:St}{K:Exit->St->Prop}{i:Nat}(m:Nat)(ts:List Nat)(h:vcL P T n ops (ops.toList.take m) s (fun s'=>vcL P T n ops (ops.toList.drop m) (s'.FH ts) (fun s2=> @OL s2 ⟨K⟩))):
  @rY _ P T n w0 ow0 p sp ⟨.region i ops false⟩ s ⟨K⟩:=fun hd a w hR hp Q hQ=>wp_region_list (by
 have hd':rX p ops.toList=true:=hd
 have:=QB (Q:=Q) (l2:=ops.toList.drop m) (ops.toList.take m) s _ (ES hG.g _ _ _ h) (fun o ho=>rX.one hd' o (fI ho)) a w hR hp fun s' a' w' hK hR' hp'=>
  OkL.wp _ _ _ (ES hG.g _ _ _ hK) (fun o ho=>rX.one hd' o (gJ ho)) a' w' ((QP ts).rel hR') hp' fun s2 a2 w2 hK2 hR2 hp2=>hQ _ _ _ _ hK2 hR2 hp2
 rwa [dL]at this)
end
attribute [go_sem] QO
section
variable {P:Program}{T:TypeId->TyE}{n:Nat}{ops:Array Oper}{p:Pin}{w0:World}{ow0:Own}
def Ok.mono {o:Oper}{s:St}{K K':St->Prop}(h:Ok P n w0 ow0 o s K)(hK:∀s',K s'->K' s'):Ok P n w0 ow0 o s K':=fun a w hR next Q hn=>h a w hR next Q fun s' a' w' hk hR'=>hn s' a' w' (hK s' hk) hR'
def aJ4 (hG:∀t,Good P T t) {sp:List Nat}{s:St}{K:Exit->St->Prop}{i:Nat}(m:Nat) {o:Oper}{l2:List Oper}(ho:ops.toList.drop m=o::l2) (hg:o.guard=none)
  {K1:St->Prop}(h:vcL P T n ops (ops.toList.take m) s K1) (hK1:∀s1,K1 s1->Ok P n w0 ow0 o s1 (fun s2=>vcL P T n ops l2 s2 (fun s3=> @OL s3 ⟨K⟩))):
  @rY _ P T n w0 ow0 p sp ⟨.region i ops false⟩ s ⟨K⟩:=fun hd a w hR hp Q hQ=>wp_region_list (by
 have hd':rX p ops.toList=true:=hd
 have:=QB (Q:=Q) (l2:=ops.toList.drop m) (ops.toList.take m) s _ (ES hG _ _ _ h) (fun o ho=>rX.one hd' o (fI ho)) a w hR hp fun s' a' w' hK hR' hp'=>by
  refine OkL.wp (ops.toList.drop m) s' (fun s3=> @OL s3 ⟨K⟩) ?_ (fun o ho=>rX.one hd' o (gJ ho)) a' w' hR' hp' fun s2 a2 w2 hK2 hR2 hp2=>hQ _ _ _ _ hK2 hR2 hp2;rw[ho];unfold OkL gK;rw[hg];exact(hK1 s' hK).mono fun s2 h2=>ES hG _ _ _ h2
 rwa [dL]at this)
end
end Go.Dv
end
section
namespace Go
def iB:= @Int.toNat_natCast
def fF:= @List.getElem?_replicate
end Go
end
section
namespace Go.Dv
open Go.RowKit
variable [lG]
variable {K:Exit->St->Prop}
variable {s:St}{lo:Operand}
variable {a:Act}{x:Operand}
variable {zv:Value}
variable {i:TypeInfo}
variable {v:Value}
section
variable {P:Program}{T:TypeId->TyE}{n:Nat}{ops:Array Oper}{p:Pin}{w0:World}{ow0:Own}
def agX {z:Array Value}{n:Nat}(h:v∈(Builtin.zeroCells z n).toList)(hz:0<z.size):v∈z.toList:=by
 simp only[Builtin.zeroCells,qC,dG,Array.toList_range]at h;obtain⟨i,_,rfl⟩:=h;have hm:i % z.size<z.size:=Nat.mod_lt _ hz;rw[getElem!_pos z _ hm];simp
def R.aDC {w:World}{ow:Own}{e:TypeId}{xs:List D}{l:List Nat}{b cap s:Nat}{C:Array Value}{fz:Nat×Nat}{vs:List Value}{j:Nat}(hb:w.heap[b]?=some (.cells C e fz)) (hone:∀v∈vs,v.oneCell'=true)
  (ho:ow b=some l) (hU:ajA fz C.size) (hC:C.size=cap*s) (hi:P.info? e=some i) (his:i.size=s) (hrow:Rs P w ow xs l 0 C 0 s) (hc1:xs.length<=cap) (hc2:cap<=maxLen) (hj:j<=xs.length) (hv:vs.length=(xs.length-j)*s):
  R P (w.setRow b (C.toList.take (j*s)++vs++C.toList.drop (j*s+vs.length)).toArray) ow (.sl (some e) (xs.take j++List.replicate (xs.length-j) (.any s))) l [.slice (some ⟨b,0,none⟩) xs.length cap]:=by
 have hfit:j*s+vs.length<=C.size:=by
  rw[hv,hC,←Nat.add_mul];exact aZ _ (by omega)
 obtain⟨hw,hb',hcs⟩:=Wr.setRow (o:=j*s) (vs:=vs) hb hfit;have hlen:(xs.take j++List.replicate (xs.length-j) (D.any s)).length=xs.length:=by simp;omega
 have hr:=(Rs.iff hb).1 hrow;simp only[R];refine⟨_,_,by rw[hlen],by omega,hc2,.inr (.inr ⟨b,0,s,_,e,fz,rfl,hb',(fun h=>by cases h),(fun t ht=> ?_),(Rs.iff hb').2 fun k x hx=> ?_⟩)⟩
 ·obtain rfl:=k_Option_some_inj ht;have hsz:(C.toList.take (j*s)++vs++C.toList.drop (j*s+vs.length)).toArray.size=C.size:=by simp;omega
  exact⟨ho,rfl,by rw[hsz];exact hU,rfl,by rw[hsz];exact hC,i,hi,his⟩
 ·by_cases hk:k<j
  ·rw[bA (by simp;omega),bC,if_pos hk]at hx;obtain⟨g1,g2⟩:=hr k x hx;refine⟨g1,g2.frame hw ⟨by rw[ho];simp,fun q e=> ?_⟩ ?_⟩
   ·rw[ho]at e;exact suffix_absurd (k_Option_some_inj e)
   ·first
     |exact .inr (.inr (by simp only[bW];rw[g1];have:=aZ s (show k+1<=j by omega);rw[k_Nat_add_mul]at this;omega))
     |exact .inr (.inl (by simp only[bW];rw[g1];have:=aZ s (show k+1<=j by omega);rw[k_Nat_add_mul]at this;omega))
  ·have hkl:k<xs.length:=by have:=(aD.1 hx).1;rw[hlen]at this;exact this
   rw[aN (by simp;omega),fF]at hx;split at hx
   ·obtain rfl:=k_Option_some_inj hx
    have hm:(k-j)*s+s<=vs.length:=by
     rw[hv];have:=aZ s (show k-j+1<=xs.length-j by omega);rw[k_Nat_add_mul]at this;omega
    refine⟨rfl,_,_,_,(vs.drop ((k-j)*s)).take s,hb',fun m hm2=> ?_,?_⟩
    ·have hm2:m<s:=hm2;have h1:=hcs ((k-j)*s+m) (by omega);rw[bC,if_pos hm2,dV];rw[←h1];congr 1;have:k*s=j*s+(k-j)*s:=by rw[←Nat.add_mul];congr 1;omega
     omega
    ·simp only[R];refine⟨by simp;omega,fun v hv2=>hone v (gJ (fI hv2))⟩
   ·cases hx
def aB9 {w:World}{e:TypeId}(hi:P.info? e=some i)(hz:i.zero=some zv):(zeroValue e).run P w= .ok zv w:=by simp[zeroValue,typeInfo,hi,hz]
def ar5 {w:World}{t e ty:TypeId}(ht:P.underlying t=some (.slice e))(a:Option Addr)(cap:Nat):(Builtin.clear_ #[t] ty #[.slice a 0 cap]).run P w= .ok (.tuple #[]) w:=by
 cases a<;>simp[Builtin.clear_,run_underlying ht]
def ar6 {w w':World}{t e ty:TypeId}(ht:P.underlying t=some (.slice e))(hz:(zeroValue e).run P w= .ok zv w)(a:Addr)(n cap:Nat)(hn:n≠0)(h:(storeCells a (Builtin.zeroCells zv.cells n).toList).run P w= .ok () w'):(Builtin.clear_ #[t] ty #[.slice (some a) n cap]).run P w= .ok (.tuple #[]) w':=by
 obtain⟨m,rfl⟩:∃m,n=m+1:=⟨n-1,by omega⟩;simp[Builtin.clear_,run_underlying ht,hz,h]
def aeG {w w':World}{o:Oper}{t:TypeId}(ho:o.op= .call {callee:= .builtin .clear,args:= #[x],argTypes:= #[t]})(hv:a.eval x=v)(h:∀ty,(Builtin.clear_ #[t] ty #[v]).run P w= .ok (.tuple #[]) w'):(execOp a.eval o).run P w= .ok (.value (.tuple #[])) w':=by
 unfold execOp;rw[ho];have h0:=fun ty=>h ty;simp[resolve,invoke,builtin,hv,h0]
def ayJ {Q:Exit->Act->World->Prop}(hG:∀t,Good P T t) {o1 o2:Oper}{K:St->Prop}{t e:TypeId}{r u j:Nat}{k:IntKind}{xs:List D}(ht:(T t).ty= .sl e) (he:(T e).ok=true) (hew:0<(T e).w) (hg1:o1.guard=none) (hg2:o2.guard=none)
  (ho1:o1.op= .slice t x (some lo) none none) (hd1:o1.dst=some u) (hu:u<n) (ho2:o2.op= .call {callee:= .builtin .clear,args:= #[.tmp u],argTypes:= #[t]}) (hd2:∀v,o2.dst=some v->v<n/\v≠r) (hur:u≠r)
  (hx:evS s x= .al r []) (hs:s r= .own (.sl (some e) xs)) (hlo:evS s lo= .val (.one (.int k j))) (hj:j<=xs.length) (hn1:sI p o1=true) (hn2:sI p o2=true)
  (hK:K ((((s.set u .un).kill r).put r (.own (.sl (some e) (xs.take j++List.replicate (xs.length-j) (.any (T e).w))))).jO o2.dst (.tup [])))
  {w:World}(hR:Rel P n w0 ow0 s a w) (hp:Pinned p a) (hQ:∀s' a' w',K s'->Rel P n w0 ow0 s' a' w'->Pinned p a'->Q .normal a' w'):wpList P ops Q [o1,o2] a w:=by
 obtain⟨ow,hf⟩:=hR;have hsl:=(hG t).desc ht (by simp);obtain⟨_,i,zv,hi,his,hz,hflat,_,_,_,hzw⟩:=(hG e).of (fun y hy e2=>by subst e2;unfold TyE.ok at he;rw[hy]at he;cases he);have hu6:u<1000000:=dZ hu hf.small
 have hval:a.eval x=aval a r:=by
  have hv:=hf.eval x;rw[hx]at hv;obtain⟨_,_,_,_,_,h4⟩:=hv;rcases h4 with⟨_,h4⟩|⟨b,off,h4,_⟩
  ·exact h4
  ·simp[loc]at h4
 have hV:=hf.slot r;rw[hs]at hV;simp only[SV,V,R]at hV;obtain⟨ad,cap,hv,hc1,hc2,h4⟩:=hV;have hv:aval a r= .slice ad xs.length cap:=by simpa using hv
 have hlov:a.eval lo= .int k j:=(hf.one hlo).1;obtain⟨v1,hv1⟩:∃v1,v1=Value.slice (if cap=j then ad else ad.map (·.add (j*i.size))) (xs.length-j) (cap-j):=⟨_,rfl⟩
 have hrun1:(execOp a.eval o1).run P w= .ok (.value v1) w:=by
  unfold execOp;rw[ho1];simp only[hval,hv,Instr.sliceAt,Instr.slice,aH,run_underlying hsl w,aG,lU];have hbr:=TR (P:=P) (w:=w) (a:=a) (lo:=some lo) (hi:=none) (isS:=true) (len:=xs.length) (cap:=cap) (.inr ⟨lo,k,j,rfl,hlov,by omega,iB j⟩) (.inl ⟨rfl,rfl⟩) hj hc1;simp only[lU]at hbr;rw[hbr];simp only[aG,ER hi w,aU,hv1]
 have hf1:Fits P n w0 ow0 ow (s.set u .un) (a.put (some u) v1) w:=hf.set hu trivial;have hp1:Pinned p (a.put (some u) v1):=by rw[←hd1];exact hp.put hn1
 have hev:(a.put (some u) v1).eval (.tmp u)=v1:=by simp[Act.eval,Act.put,hf.size,hu]
 have hav:aval (a.put (some u) v1) r= .slice ad xs.length cap:=by rw[AY hf.size hf.small hu,if_neg (k_Ne_symm hur),hv]
 have hs1:(s.set u .un) r= .own (.sl (some e) xs):=by
  rw[St.set];simp only[St.put,if_neg (k_Ne_symm hur)];rw[free_own (by rw[hs];rfl) (k_Ne_symm hur),hs]
 have key:∃w2 ow2,(execOp (a.put (some u) v1).eval o2).run P w= .ok (.value (.tuple #[])) w2/\Fits P n w0 ow0 ow2 (((s.set u .un).kill r).put r (.own (.sl (some e) (xs.take j++List.replicate (xs.length-j) (.any (T e).w))))) (a.put (some u) v1) w2:=by
  have hrf:r≠far0:=fun e=>by have:=hf.far;rw[←e,hs]at this;cases this
  by_cases hjl:xs.length-j=0
  ·refine⟨w,ow,?_,?_⟩
   ·exact aeG ho2 hev fun ty=>by rw[hv1,hjl];exact ar5 hsl _ _
   ·have hxs:xs.take j++List.replicate (xs.length-j) (D.any (T e).w)=xs:=by rw[hjl];simp;exact k_List_take_of_length_le (by omega)
    rw[hxs];refine hf1.change hf1.nodef hf1.size rfl rfl rfl (k_Nat_le_refl _) (fun b _ h=>⟨rfl,h⟩) hf1.new (fun k=>k=r) (fun k _ b _ q hq=>⟨rfl,hq⟩) (fun k hk=>⟨rfl,?_⟩) ?_ (fun e=>hrf e.symm)
    ·have hkr:k≠r:=hk;simp only[St.put,if_neg hkr];rcases uS (s.set u .un) r k with h1|⟨h1,_,h2⟩
     ·exact .inl h1
     ·refine .inr ⟨h1,fun m hm=> ?_⟩;have hmr:m≠r:=by rintro rfl;exact h2 hm
      exact⟨hmr,by simp only[if_neg hmr];exact tX ((hf1.slot k).root hm) hmr⟩
    ·rintro k rfl;have:=hf1.slot k;rw[hs1]at this;simp only[St.put,if_true];exact this
  ·rcases h4 with⟨_,h4,_⟩|⟨h4,_⟩|⟨b,off,sz,C,e',fz,rfl,hb,_,h5,hrow⟩
   ·rw[h4]at hjl;simp at hjl
   ·cases h4
   obtain⟨hob,rfl,hU,rfl,hC,i',hi',his'⟩:=h5 e rfl;obtain rfl:i=i':=by rw[hi]at hi';exact k_Option_some_inj hi'
   have hcj:cap≠j:=by omega
   have hzl:zv.cells.size=i.size:=by
    have h1:=(R.zf (P:=P) (w:=w) (ow:=ow) (l:=[]) hflat).len;rw[jF,hzw,←his]at h1;exact h1
   obtain⟨vs,hvs⟩:∃vs,vs=(Builtin.zeroCells zv.cells (xs.length-j)).toList:=⟨_,rfl⟩;have hvl:vs.length=(xs.length-j)*sz:=by rw[hvs,jF,size_zeroCells,hzl,his']
   have hone:∀v∈vs,v.oneCell'=true:=fun v hv=>(R.zf (P:=P) (w:=w) (ow:=ow) (l:=[]) hflat).OP v (agX (by rw[←hvs];exact hv) (by rw[hzl,his];exact hew))
   have hfit:0+j*sz+0+vs.length<=C.size:=by
    rw[hvl,hC];have:=aZ sz (show j+(xs.length-j)<=cap by omega);rw[k_Nat_add_mul]at this;omega
   have hst:=xV P b (0+j*sz) e fz vs 0 C w hb hU hfit hone;have hct:=R.aDC (P:=P) hb hone hob hU hC hi his' hrow hc1 hc2 hj hvl;simp only[bW,kM]at hst
   refine⟨_,ow,aeG ho2 hev fun ty=>by
    rw[hv1,if_neg hcj]
    exact ar6 hsl (aB9 hi hz) _ _ _ hjl (by
     rw[←hvs];have hadd:(⟨b,0,none⟩:Addr).add (j*i.size)=⟨b,j*sz,none⟩:=by rw[his'];unfold Addr.add;split<;>simp_all
     show(storeCells ((⟨b,0,none⟩:Addr).add (j*i.size)) vs).run P w=_;rw[hadd];exact hst),?_⟩
   have hfit':j*sz+vs.length<=C.size:=by omega
   obtain⟨hw,hb',_⟩:=Wr.setRow (o:=j*sz) (vs:=vs) hb hfit';obtain⟨e1,e2,e3,e4⟩:=ao6 (w:=w) (b:=b) (C:=(C.toList.take (j*sz)++vs++C.toList.drop (j*sz+vs.length)).toArray)
   have hob2:∀k,k≠r->∀b2 q,ow b2=some (q++[k])->b2=b->False:=fun k hk b2 q hq e=>by
    rw[e,hob]at hq;have:=congrArg List.getLast? (k_Option_some_inj hq);simp at this;exact hk this.symm
   refine hf1.change hf1.nodef hf1.size e1 e2 e3 (Nat.le_of_eq e4.symm) (fun b2 hb2 ho=>⟨hw.other b2 (fun e=>by rw[e,hob]at ho;cases ho),ho⟩) (fun b2 hb2=>hf1.new b2 (by rw[e4]at hb2;exact hb2)) (fun k=>k=r) (fun k hk b2 hb2 q hq=>⟨hw.other b2 (fun e=>hob2 k hk b2 q hq e),hq⟩) (fun k hk=>⟨rfl,?_⟩) ?_ (fun e=>hrf e.symm)
   ·have hkr:k≠r:=hk;simp only[St.put,if_neg hkr];rcases uS (s.set u .un) r k with h1|⟨h1,_,h2⟩
    ·exact .inl h1
    ·refine .inr ⟨h1,fun m hm=> ?_⟩;have hmr:m≠r:=by rintro rfl;exact h2 hm
     exact⟨hmr,by simp only[if_neg hmr];exact tX ((hf1.slot k).root hm) hmr⟩
   ·rintro k rfl;simp only[St.put,if_true,SV,V];rw[hav,←his,his'];exact hct
 obtain⟨w2,ow2,hrun2,hf2⟩:=key;have hp2:∀v,Pinned p ((a.put (some u) v1).put o2.dst v):=fun v=>hp1.put hn2;unfold wpList;rw[if_pos (by simp[Region.wanted,hg1])];left;unfold Oper.wp;rw[hrun1];simp only[Oper.upon,hd1];unfold wpList;rw[if_pos (by simp[Region.wanted,hg2])];left;unfold Oper.wp;rw[hrun2];simp only[Oper.upon];unfold wpList;refine hQ _ _ _ hK ?_ (hp2 _);cases hod:o2.dst with
 |none=>exact⟨ow2,hf2⟩
 |some v=>exact⟨ow2,hf2.set (hd2 v hod).1 ⟨#[],rfl,rfl,fun k x hx=>by simp at hx⟩⟩
def aIB [hG:wQ P T] {sp:List Nat}{i:Nat}(m:Nat) {o1 o2:Oper}{t e u:Nat}
  (h:vcL P T n ops (ops.toList.take m) s (fun s1=>match evS s1 x with
   | .al r []=>(match s1 r with
    | .own (.sl (some e') xs)=>e'=e/\XX (evS s1 lo) fun j=>0<=j/\j<=xs.length/\u≠r/\ @OL (((s1.set u .un).kill r).put r (.own (.sl (some e) (xs.take j.toNat++List.replicate (xs.length-j.toNat) (.any (T e).w))))) ⟨K⟩
    |_=>False)
   |_=>False))
  (ho:ops.toList.drop m=[o1,o2]:=by rfl) (ho1:o1.op= .slice t x (some lo) none none:=by rfl) (ht:(T t).ty= .sl e:=by rfl) (he:(T e).ok=true:=by rfl) (hew:0<(T e).w:=by decide) (hg1:o1.guard=none:=by rfl) (hg2:o2.guard=none:=by rfl)
  (hd1:o1.dst=some u:=by rfl) (hu:u<n:=by decide) (ho2:o2.op= .call {callee:= .builtin .clear,args:= #[.tmp u],argTypes:= #[t]}:=by rfl) (hd2:o2.dst=none:=by rfl): @rY _ P T n w0 ow0 p sp ⟨.region i ops false⟩ s ⟨K⟩:=fun hd a w hR hp Q hQ=>wp_region_list (by
 have hd':rX p ops.toList=true:=hd
 have:=QB (Q:=Q) (l2:=ops.toList.drop m) (ops.toList.take m) s _ (ES hG.g _ _ _ h) (fun o ho=>rX.one hd' o (fI ho)) a w hR hp fun s' a' w' hK hR' hp'=>by
  have hn1:sI p o1=true:=rX.one hd' o1 (gJ (by rw[ho];simp));have hn2:sI p o2=true:=rX.one hd' o2 (gJ (by rw[ho];simp));rw[ho];split at hK
  rotate_left
  ·exact hK.elim
  rename_i r hx;split at hK
  rotate_left
  ·exact hK.elim
  rename_i e' xs hs;obtain⟨rfl,hK⟩:=hK;obtain⟨k,j,hj,h1,h2,h3,h4⟩:=BI hK;refine ayJ hG.g (j:=j.toNat) ht he hew hg1 hg2 ho1 hd1 hu ho2 (fun v hv=>by rw[hd2]at hv;cases hv) h3 hx hs (by rw[hj,Int.toNat_of_nonneg h1]) (by omega) hn1 hn2 ?_ hR' hp' fun s2 a2 w2 hK2 hR2 hp2=>hQ .normal s2 a2 w2 hK2 hR2 hp2;rw[hd2];exact h4
 rwa [dL]at this)
def aFE {o:Oper}{K:St->Prop}{t t' e:TypeId}{xs:List D}(ht:P.underlying t=some (.slice e)) (ho:o.op= .binOp .eql t x (.const (.slice none 0 0)) t') (hd:dstOk n o=true) (hx:asSl s (slotOf x) (evS s x)= .fr xs)
  (h1:xs=[]->K (s.jO o.dst (.val (.one (.bool true))))) (h2:K (s.jO o.dst (.val (.one (.bool false))))):Ok P n w0 ow0 o s K:=by
 refine iL fun a w ow hf=> ?_
 have fin:∀r:Bool,Rel P n w0 ow0 (s.jO o.dst (.val (.one (.bool r)))) (a.put o.dst (.bool r)) w:=fun r=>⟨ow,by
  cases hod:o.dst with
  |none=>exact hf
  |some t=>
   have ht:t<n:=by simpa[dstOk,hod]using hd
   exact hf.set ht (SV.zQ rfl)⟩
 have hv:=hf.asSl x;rw[hx]at hv;simp only[AU]at hv
 have hemp:∀(a0:Option Addr) m c,a.eval x= .slice a0 m c->a0=none->xs=[]:=fun a0 m c e0 hn=>by
  by_cases hne:xs=[]
  ·exact hne
  ·have h3:=AU.hdr (s:=s) (a:=a) (z:= .fr xs) (by simpa only[AU]using hv) (by simp) (by simpa[SLv.xs]using hne);obtain⟨ad,m',c',h4⟩:=h3;rw[e0,hn]at h4;cases h4
 obtain⟨ad,cap,hval,hcap,_⟩:=hv.hdr;have ev:a.eval (.const (.slice none 0 0))= .slice none 0 0:=rfl
 have e2:∀m c,(Op.equal t (.slice ad m c) (.slice none 0 0)).run P w= .ok ad.isNone w:=fun m c=>by
  unfold Op.equal Op.maxDepth Op.equalIn;rw[aH,run_underlying ht w];cases ad<;>rfl
 refine⟨.bool ad.isNone,w,?_,_,?_,fin _⟩
 ·unfold execOp;rw[ho];simp only[hval,ev];have hg:∀m c,(eqGuard .eql t x (.const (.slice none 0 0)) (.slice ad m c) (.slice none 0 0)).run P w= .ok () w:=fun m c=>rfl;simp only[aH,hg,aG,binOp,e2,aU];try rfl
 ·cases had:ad with
  |none=>exact h1 (hemp _ _ _ hval had)
  |some _=>exact h2
def aJS [hG:wQ P T] {sp:List Nat}{i:Nat}(m:Nat) {o:Oper}{l2:List Oper}{t t' e u:Nat}
  (h:vcL P T n ops (ops.toList.take m) s (fun s1=>∃xs,asSl s1 (slotOf x) (evS s1 x)= .fr xs/\(xs=[]->vcL P T n ops l2 (s1.set u (.val (.one (.bool true)))) (fun s3=> @OL s3 ⟨K⟩))/\vcL P T n ops l2 (s1.set u (.val (.one (.bool false)))) (fun s3=> @OL s3 ⟨K⟩)))
  (ho:ops.toList.drop m=o::l2:=by rfl) (hop:o.op= .binOp .eql t x (.const (.slice none 0 0)) t':=by rfl) (ht:(T t).ty= .sl e:=by rfl) (hg:o.guard=none:=by rfl) (hdst:o.dst=some u:=by rfl) (hu:u<n:=by decide): @rY _ P T n w0 ow0 p sp ⟨.region i ops false⟩ s ⟨K⟩:=by
 refine aJ4 hG.g m ho hg h fun s1 ⟨xs,h1,h2,h3⟩=>aFE ((hG.g t).desc ht (by simp)) hop (dstOk_of fun v hv=>by rw[hdst]at hv;cases hv;exact hu) h1 ?_ ?_
 ·rw[hdst];exact h2
 ·rw[hdst];exact h3
end
def S.azN:S->S
 | .own d=> .val d
 | .tup l=> .tup (l.map fun x=>match x with| .own d=> .val d|x=>x)
 |x=>x
def amP {w:World}{ow:Own}(hn:∀b,w.heap.size<=b->ow b=none):∃t,t≠far0/\∀b q,ow b≠some (q++[t]):=by
 have key:∀n,∃m,∀b,b<n->∀q t,ow b=some (q++[t])->t<m:=by
  intro n
  induction n with
  |zero=>exact⟨0,fun b hb=>by omega⟩
  |succ n ih=>
   obtain⟨m,hm⟩:=ih;cases ho:ow n with
   |none=>exact⟨m,fun b hb q t h=>by
     by_cases hbn:b=n
     ·rw[hbn,ho]at h;cases h
     ·exact hm b (by omega) q t h⟩
   |some l=>exact⟨m+l.foldl max 0+1,fun b hb q t h=>by
     by_cases hbn:b=n
     ·rw[hbn,ho]at h;obtain rfl:=k_Option_some_inj h;rw[mG];simp only[k_List_foldl_cons,List.foldl_nil];omega
     ·have:=hm b (by omega) q t h;omega⟩
 obtain⟨m,hm⟩:=key w.heap.size;refine⟨m+far0+1,by omega,fun b q h=> ?_⟩
 have hb:b<w.heap.size:=by
  by_cases hb:b<w.heap.size
  ·exact hb
  ·rw[hn b (by omega)]at h;cases h
 have:=hm b hb q _ h;omega
open Classical in
def fK.azN {P:Program}{f:FuncId}{ds:List D}{R:S}(h:fK P f ds (fun r=>r=R)):fK P f ds (fun r=>r=R.azN):=by
 intro w ow vs t ht hL hn hsz ha;obtain⟨u,hu,hfr⟩:=amP hn;refine(h w ow vs u hu hL hn hsz ha).mono ?_;rintro e w' ⟨v,ow',r,rfl,rfl,hA,hp,hsv⟩
 have hF:∀l,OB w' ow' (l++[u]) (fun b=>if∃q,ow' b=some (q++[u])then none else ow' b):=fun l b _=>⟨fun ho=>by
  simp only;split
  ·rfl
  ·exact ho,fun q hq=>by
  simp only;rw[if_pos ⟨q++l,by rw[hq];simp⟩]⟩
 refine⟨v,fun b=>if∃q,ow' b=some (q++[u])then none else ow' b,_,rfl,rfl,⟨hA.os,hA.tape,hA.output,hA.size,fun b hb=>⟨(hA.old b hb).1,?_⟩,fun b hb=> ?_⟩,?_,fun s a=> ?_⟩
 ·rw[if_neg,(hA.old b hb).2];rintro⟨q,hq⟩;rw[(hA.old b hb).2]at hq;exact hfr b q hq
 ·rw[if_neg,hA.new b hb];rintro⟨q,hq⟩;rw[hA.new b hb]at hq;cases hq
 ·cases r<;>first|rfl|exact hp
 ·have hv:=hsv s a;have hno:∀b,ow' b=none->(if∃q,ow' b=some (q++[u])then none else ow' b)=none:=fun b ho=>by split;rfl;exact ho
  have hval:∀(d:D) (v:Value),V P w' ow' d.fz [] v->V P w' (fun b=>if∃q,ow' b=some (q++[u])then none else ow' b) d.fz [] v:=fun d v hv=>V.trf (fun b _ ho=>⟨rfl,hno b ho⟩) hv;cases r with
  |own d=>exact V.fz (hF []) hv
  |val d=>exact hval d v hv
  |un=>trivial
  |tup l=>
   obtain⟨ys,h1,h2,h3⟩:=hv;refine⟨ys,h1,by simpa using h2,fun k x hx=> ?_⟩;simp only[aQ,aL]at hx;obtain⟨y,hy,rfl⟩:=hx;have:=h3 k y hy;cases y with
   |own d=>exact V.fz (hF [k]) this
   |val d=>exact hval d _ this
   |_=>trivial
  |rp d=>
   obtain⟨b,off,h1,h2,h3⟩:=hv;exact⟨b,off,h1,hno b h2,h3.trf (fun b _ ho=>⟨rfl,hno b ho⟩) h2⟩
  |al r p=>cases hp
  |rf r p=>cases hp
  |ag r p=>cases hp
end Go.Dv
end
section
namespace Go
def yM:= @List.flatMap_cons
end Go
end
section
namespace Go.Pl
open Go.Dv
def iU (c:UInt8):UInt8:=if 65<=c.toNat/\c.toNat<=90 then c+32 else c
def wJ (s:Str):Str:=s.map iU
def xJ (c:UInt8):Bool:=(decide (97<=c.toNat)&&decide (c.toNat<=122))||(decide (65<=c.toNat)&&decide (c.toNat<=90))||(decide (48<=c.toNat)&&decide (c.toNat<=57))
def BR (c:UInt8):Str:=if xJ c=true\/c.toNat=32 then[c]else if c.toNat≠39 then[32]else[]
def yX (s:Str):Str:=s.flatMap BR
def rE (s:Str)(i:Nat)(o:Str):Str:=if(s.getD i 0).toNat=32 then o else(if 0<o.length/\(s.getD (i-1) 0).toNat=32 then o++[32]else o)++[s.getD i 0]
def ED (s:Str):Str:=loopN s.length [] (rE s)
def normal (s:Str):Str:=ED (yX (wJ s))
variable {c:UInt8}
def acW (h1:65<=c.toNat)(h2:c.toNat<=90):(iU c).toNat=c.toNat+32:=by
 unfold iU;rw[if_pos ⟨h1,h2⟩,UInt8.toNat_add];simp;omega
def RD (h:¬(65<=c.toNat/\c.toNat<=90):=by omega):iU c=c:=if_neg h
def DF (s:Str):(wJ s).length=s.length:=by simp[wJ]
def asG (c:UInt8):(BR c).length<=1:=by
 unfold BR;split<;>simp;split<;>simp
def IU (s:Str):(yX s).length<=s.length:=by
 unfold yX
 induction s with
 |nil=>simp
 |cons c s ih=>have:=asG c;simp only[yM,aP,aS];omega
def VU (s:Str):(ED s).length<=2*s.length:=by
 refine loopN_inv (fun i (o:Str)=>o.length<=2*i) (by simp) fun i o _ ho=> ?_;unfold rE;split
 ·omega
 ·split<;>simp<;>omega
variable {i:Nat}
def ajU {α β:Type}(f:α->List β){l:List α}{c:α}(h:l[i]?=some c):(l.take (i+1)).flatMap f=(l.take i).flatMap f++f c:=by rw[dM h];simp
def XT {s:Str}(h:s[i]?=some c):s.getD i 0=c:=by simp[aC,h]
end Go.Pl
namespace Go.Pl
open Go.Dv
def TY (c:UInt8)(p:Str):Str->List Str
 |[]=>[p]
 |d::s=>if d=c then p::TY c [] s else TY c (p++[d]) s
def ad6 (c:UInt8)(s:Str):List Str:=TY c [] s
def OV (c:UInt8):∀(s p:Str),(TY c p s).length<=s.length+1/\∀x∈TY c p s,x.length<=p.length+s.length
 |[],p=>by simp[TY]
 |d::s,p=>by
  unfold TY;split
  ·have⟨h1,h2⟩:=OV c s [];refine⟨by simp;omega,fun x hx=> ?_⟩;rcases aW.1 hx with rfl|hx
   ·omega
   ·have:=h2 x hx;simp at this|-;omega
  ·have⟨h1,h2⟩:=OV c s (p++[d]);refine⟨by simp;omega,fun x hx=> ?_⟩;have:=h2 x hx;simp at this|-;omega
def al4 (c:UInt8)(s:Str):(ad6 c s).length<=s.length+1/\∀x∈ad6 c s,x.length<=s.length:=by
 have⟨h1,h2⟩:=OV c s [];exact⟨h1,fun x hx=>by have:=h2 x hx;simpa using this⟩
def codeOf (d:Nat):Int:=if d=98\/d=102\/d=112\/d=118 then 1 else if d=99\/d=103\/d=106\/d=107\/d=113\/d=115\/d=120\/d=122 then 2 else if d=100\/d=116 then 3 else if d=108 then 4 else if d=109\/d=110 then 5 else if d=114 then 6 else if d=97\/d=101\/d=105\/d=111\/d=117\/d=121 then 0 else if d=104\/d=119 then -1 else -2
def aO (c:UInt8):Int:=codeOf (iU c).toNat
def YT (c:UInt8): -2<=aO c/\aO c<=6:=by
 unfold aO codeOf;repeat(first|omega|split)
def wH (s:Str×Int)(c:UInt8):Str×Int:=if s.1=[]then([iU c],aO c)else(if aO c>0/\aO c≠s.2/\s.1.length<4 then s.1++[UInt8.ofNat (48+aO c).toNat]else s.1,if 0<=aO c then aO c else s.2)
def acE (o:Str):Str:=o++List.replicate (4-o.length) 48
def jK (s:Str):Str:=if s=[]\/s.all (fun c=>decide (aO c≠ -2))=false then[]else acE (s.foldl wH ([],0)).1
end Go.Pl
end
section
namespace Go
def nY:= @List.takeWhile_prefix
end Go
end
section
namespace Go.Pl
open Go.Dv
def CO (l:List Str)(x:Str):Nat:=(l.takeWhile fun y=>ltL y x).length
def jW (l:List Str)(x:Str)(again:Bool):List Str:=if !again&&decide (l[CO l x]?=some x)then l else l.take (CO l x)++[x]++l.drop (CO l x)
def aCR (l:List Str)(x:Str):CO l x<=l.length:=by
 unfold CO;exact(nY _).length_le
def sM (l:List Str)(x:Str)(b:Bool):(jW l x b).length<=l.length+1:=by
 have:=aCR l x;unfold jW;split
 ·omega
 ·simp;omega
def xX (t:List Str)(x:Str):List Str:=if x≠[]then jW t x false else t
def tokens (s:Str):List Str:=(ad6 32 (normal s)).foldl xX []
def apP (t:List Str)(x:Str):(xX t x).length<=t.length+1:=by
 unfold xX;split
 ·exact sM _ _ _
 ·omega
def xR (t:List Str)(x:Str):List Str:=if jK x≠[]then jW t (jK x) false else t
def mK (s:Str):List Str:=(tokens s).foldl xR []
def SN (c:Str):Bool:=decide (c≠[])&&c.all xJ&&decide (wJ c=c)
def qA (l:List Str):Bool:=l.all SN&&adj ltL l
def wO (a b:List Str):Bool:=qA a&&qA b
def I6 (b:List Str)(t:List Str)(x:Str):List Str:=if b.any (fun y=>decide (y=x))=true then jW t x false else t
def common (a b:List Str):List Str:=a.foldl (I6 b) []
def xY (t:List Str)(x:Str):List Str:=jW t x false
def Y0 (a b:List Str):List Str:=b.foldl xY (a.foldl xY [])
def BJ (a b:List Str):Int:=if wO a b=true then ratio (common a b).length (Y0 a b).length else 0
def uF (a b:List Str):Int:=if a=[]\/b=[]then 0 else BJ a b
def mX (a b c:Int):Int:=if inR a 0 9999=true/\inR b 0 9999=true/\inR c 1 9999=true then(if max a b-min a b>=c then 0 else(1000*(c-(max a b-min a b))).tdiv c)else 0
def digits (s:Str):Str:=s.filter fun c=>decide (48<=c.toNat/\c.toNat<=57)
def F9 {α β:Type}(f:List α->β->List α)(h:∀t x,(f t x).length<=t.length+1):∀(l:List β) (t:List α),(l.foldl f t).length<=t.length+l.length
 |[],t=>by simp
 |x::l,t=>by have:=F9 f h l (f t x);have:=h t x;simp only[k_List_foldl_cons,aS];omega
end Go.Pl
end
section
namespace Go
def aX:= @List.drop_eq_getElem_cons
def eD:= @List.length_singleton
end Go
end
section
namespace Go.Pl
open Go.Dv
def chr (s:Str)(i:Nat):UInt8:=s.getD i 0
variable {i:Nat}
def A7 {s:Str}(h:i<s.length:=by omega):s[i]?=some (chr s i):=by
 obtain⟨c,hc⟩:=aR h;rw[chr,XT hc];exact hc
def edOne (x y:Str)(T:L2)(i:Nat)(r:L1)(j:Nat):Int:=
 if i=0 then j else if j=0 then i else if chr x (i-1)=chr y (j-1)then at2 T (i-1) (j-1)else 1+min (min (at2 T (i-1) j) (at1 r (j-1))) (at2 T (i-1) (j-1))
def wM (x y:Str)(tr:Bool)(i j:Nat):Bool:=tr&&decide (i>1)&&decide (j>1)&&decide (chr x (i-1)=chr y (j-2))&&decide (chr x (i-2)=chr y (j-1))
def ahO (x y:Str)(tr:Bool)(T:L2)(i j:Nat)(r:L1):L1:=if wM x y tr i j=true then r.set j (min (at1 r j) (at2 T (i-2) (j-2)+1))else r
def GL (x y:Str)(tr:Bool)(T:L2)(i j:Nat)(r:L1):L1:=ahO x y tr T i j (r.set j (edOne x y T i r j))
def aeC (x y:Str)(tr:Bool)(i:Nat)(T:L2):L1:=loopN (y.length+1) (List.replicate (y.length+1) 0) (GL x y tr T i)
def Q7 (x y:Str)(tr:Bool):L2:=loopN (x.length+1) [] fun i T=>T++[aeC x y tr i T]
def ajS (n k i:Nat)(r:L1):Prop:=r.length=n/\∀j<k,0<=at1 r j/\at1 r j<=i+j
def abH (n:Nat)(T:L2):Prop:=∀i<T.length,ajS n n i (T.getD i [])
variable {n j:Nat}
def ET {T:L2}(h:abH n T)(hi:i<T.length)(hj:j<n):∃r,T[i]?=some r/\r[j]?=some (at2 T i j)/\0<=at2 T i j/\at2 T i j<=i+j:=by
 obtain⟨r,hr⟩:=aR hi;have h1:=h i hi;rw[aC,hr]at h1;obtain⟨h2,h3⟩:=h1;simp only[Option.getD_some]at h2 h3;have h4:=aY (l:=r) (i:=j);have h5:at2 T i j=at1 r j:=by simp[at2,at1,aC,hr]
 exact⟨r,hr,by rw[h5];exact h4,by rw[h5];exact(h3 j hj).1,by rw[h5];exact(h3 j hj).2⟩
variable {r:L1}{v:Int}
def zJ (k:Nat)(hj:j<r.length):at1 (r.set j v) k=if j=k then v else at1 r k:=by
 simp only[at1,aC,kD];by_cases h:j=k
 ·subst h;simp[hj]
 ·simp[h]
def V4 {k:Nat}(h:ajS n k i r)(hk:k<n)(h1:0<=v)(h2:v<=i+k):ajS n (k+1) i (r.set k v):=by
 refine⟨by simp[h.1],fun j hj=> ?_⟩;rw[zJ _ (by rw[h.1];exact hk)];split
 ·omega
 ·exact h.2 j (by omega)
def agF {T:L2}(h:abH n T)(hr:ajS n n T.length r):abH n (T++[r]):=by
 intro i hi;simp only[aP,eD]at hi;rw[aC];by_cases h1:i<T.length
 ·rw[bA h1];have:=h i h1
  rwa [aC]at this
 ·obtain rfl:i=T.length:=by omega
  simp;exact hr
variable {x y:Str}
def aF5 {T:L2}(hT:T.length=i)(h4:abH n T)(hr:ajS n j i r)(hj:j<n)(hi:0<=(i:Int)):0<=edOne x y T i r j/\edOne x y T i r j<=i+j:=by
 unfold edOne;split
 ·omega
 ·split
  ·omega
  ·obtain⟨q,hq,hqj,hb1,hb2⟩:=ET h4 (i:=i-1) (j:=j-1) (by omega) (by omega);obtain⟨q',hq',hqk,hb3,hb4⟩:=ET h4 (i:=i-1) (j:=j) (by omega) (by omega);have hb5:=hr.2 (j-1) (by omega);split
   ·omega
   ·omega
def avC {tr:Bool}{T:L2}(hT:T.length=i)(h4:abH n T)(hr:ajS n j i r)(hj:j<n):ajS n (j+1) i (GL x y tr T i j r):=by
 have hve:=aF5 (x:=x) (y:=y) hT h4 hr hj (by omega);have h1:=V4 hr hj hve.1 hve.2;unfold GL ahO;generalize r.set j (edOne x y T i r j)=r' at h1|-
 split
 ·next hw=>
  simp only[wM,k_Bool_and_eq_true,decide_eq_true_eq]at hw;obtain⟨q,hq,hqj,hb1,hb2⟩:=ET h4 (i:=i-2) (j:=j-2) (by omega) (by omega);have hb3:=h1.2 j (by omega);exact V4 ⟨h1.1,fun j' hj'=>h1.2 j' (by omega)⟩ hj (by omega) (by omega)
 ·exact h1
def aeD (x y:Str)(tr:Bool):(Q7 x y tr).length=x.length+1/\abH (y.length+1) (Q7 x y tr):=by
 refine loopN_inv (fun i (T:L2)=>T.length=i/\abH (y.length+1) T) ⟨rfl,fun i hi=>by simp at hi⟩ fun i T hi ⟨h1,h2⟩=>⟨by simp[h1],agF h2 ?_⟩;rw[h1];exact loopN_inv (fun j r=>ajS (y.length+1) j i r) ⟨by simp,by omega⟩ fun j r hj hr=>avC h1 h2 hr hj
def GK (x y:Str):Bool:=decide (x.length<=40)&&decide (y.length<=40)
def qX (x y:Str):Int:=if GK x y=true then at2 (Q7 x y false) x.length y.length else -1
def ahN (x y:Str): -1<=qX x y/\qX x y<=80:=by
 unfold qX;split
 ·next h=>
  simp only[GK,k_Bool_and_eq_true,decide_eq_true_eq]at h;have h1:=aeD x y false;obtain⟨q,hq,hqj,hb1,hb2⟩:=ET h1.2 (i:=x.length) (j:=y.length) (by omega) (by omega);omega
 ·omega
def xM (x y:Str):Int:=if qX x y<0 then 0 else if max (x.length:Int) y.length=0 then 1000 else(1000*(max (x.length:Int) y.length-qX x y)).tdiv (max (x.length:Int) y.length)
def pQ (x y:Str):Int:=if normal x=[]\/normal y=[]then 0 else xM (normal x) (normal y)
def LB {a b:Int}(h1: -9000000000000000000<=a:=by omega)(h:a<=9000000000000000000:=by omega):inI .i64 (a.tdiv b):=by
 have:=Int.natAbs_tdiv_le_natAbs a b;simp only[inI];omega
end Go.Pl
namespace Go.Pl
open Go.Dv
def lV (m:Nat):Str:=if h:m=0 then[]else lV (m/10)++[UInt8.ofNat (48+m % 10)]
termination_by m
decreasing_by omega
def uV {m:Nat}(h:m≠0:=by omega):lV m=lV (m/10)++[UInt8.ofNat (48+m % 10)]:=by rw[lV,dif_neg h]
def uJ:lV 0=[]:=by rw[lV];simp
def yH (n:Int):Str:=if n=0 then[48]else(if n<0 then[45]else[])++lV n.natAbs
def MU (m k:Nat)(h:m<10^k):(lV m).length<=k:=by
 induction k generalizing m with
 |zero=>
  have:m=0:=by simpa using h
  subst this;simp[uJ]
 |succ k ih=>
  by_cases h0:m=0
  ·subst h0;simp[uJ]
  ·rw[uV h0];have:=ih (m/10) (by rw[Nat.pow_succ]at h;omega);simp;omega
end Go.Pl
namespace Go.Pl
open Go.Dv
def JO (st:Int×Int)(c:UInt8):Int×Int:=if 48<=c.toNat/\c.toNat<=57 then(st.1*10+(c.toNat-48),st.2+1)else st
def uC (s:Str):Int×Int:=(s.take 11).foldl JO (0,0)
def lW (s:Str):Int:=if s[0]?=some 45 then-(uC s).1 else(uC s).1
def nH (s:Str):Bool:=decide ((uC s).2<=9)&&decide (s.length<=10)&&decide (yH (lW s)=s)
def jC (s:Str):Int:=if nH s=true/\inR (lW s) 1000 9999=true then lW s else 0
end Go.Pl
namespace Go.Pl
open Go.Dv
def shared:Str->Str->Nat
 |a::s,b::t=>if a=b then shared s t+1 else 0
 |_,_=>0
def JP (p q:Str):Int:=
 if p.length<4\/q.length<4\/shared p.reverse q.reverse<4 then 0
 else if shared p.reverse q.reverse=p.length/\shared p.reverse q.reverse=q.length then 1000
 else if shared p.reverse q.reverse>=7\/shared p.reverse q.reverse=p.length\/shared p.reverse q.reverse=q.length then 800 else 400
def sJ (x y:Str):Int:=JP (digits x) (digits y)
variable {i:Nat}
def ac3 {s:Str}(h:i<s.length:=by omega):s[s.length-1-i]?=some (chr s.reverse i):=by
 have h1:=A7 (s:=s.reverse) (i:=i) (by simpa using h);rw[←h1,List.getElem?_reverse h]
variable {p q:Str}
def abD (hp:i<p.length)(hq:i<q.length):shared (p.drop i) (q.drop i)=if chr p i=chr q i then shared (p.drop (i+1)) (q.drop (i+1))+1 else 0:=by
 rw[aX hp,aX hq,shared];have h1:=A7 hp;have h2:=A7 hq;rw[aB hp]at h1;rw[aB hq]at h2;rw[k_Option_some_inj h1,k_Option_some_inj h2]
def M3 (h:p.length<=i\/q.length<=i):shared (p.drop i) (q.drop i)=0:=by
 rcases h with h|h
 ·rw[bO h];unfold shared;rfl
 ·rw[bO h];cases p.drop i<;>rfl
end Go.Pl
end
section
namespace Go.Pl
open Go.Dv
def fld (r:Rec)(i:Nat):Str:=r.fields.getD i []
def uH (x y:Str):Int:=if 0<jC x/\0<jC y then mX (jC x) (jC y) 10 else 0
def sN (a b:Rec):L1:=[pQ (fld a 0) (fld b 0),uF (tokens (fld a 0)) (tokens (fld b 0)),uF (mK (fld a 0)) (mK (fld b 0)),pQ (fld a 1) (fld b 1),uH (fld a 2) (fld b 2),sJ (fld a 3) (fld b 3)]
def recAt (l:List Rec)(i:Nat):Rec:=l.getD i default
def RL {l:List Rec}{i:Nat}(h:i<l.length:=by omega):l[i]?=some (recAt l i):=by simp[recAt,aC,h]
def mD (l:List Rec)(rs:List (List Tst))(s:Sco)(i k:Nat):Int:=if i=k then 0 else iY rs s (sN (recAt l (min i k)) (recAt l (max i k)))
def xZ (l:List Rec)(rs:List (List Tst))(s:Sco)(i:Nat):L1:=(List.range l.length).map (mD l rs s i)
def weights (l:List Rec)(rs:List (List Tst))(s:Sco):L2:=(List.range l.length).map (xZ l rs s)
variable {α:Type}
def Z9 (f:Nat->α)(k:Nat):(List.range (k+1)).map f=(List.range k).map f++[f k]:=by simp[dY]
def iI {r:Rec}(h:bG r=true):r.fields.length=4/\∀i,i<4->r.fields[i]?=some (fld r i)/\(fld r i).length<=40:=by
 simp only[bG,k_Bool_and_eq_true,decide_eq_true_eq,aI]at h;refine⟨h.2,fun i hi=> ?_⟩;have h1:r.fields[i]?=some (fld r i):=by simp[fld,aC,h.2,hi]
 refine⟨h1,?_⟩;have h2:=h.1.1.1.1 _ (aA h1);simp only[lL,isText,k_Bool_and_eq_true,decide_eq_true_eq]at h2;exact h2.2.2
def backs (p:α->Bool)(l:List α):Nat:=(l.reverse.takeWhile p).length
def kF (p:α->Bool)(l:List α)(v:α):List α:=l.take (l.length-backs p l)++[v]++l.drop (l.length-backs p l)
def alG (p:α->Bool)(l:List α):backs p l<=l.length:=by
 have:=(nY (p:=p) (l:=l.reverse)).length_le;simpa[backs]using this
def PW (p:α->Bool)(l:List α)(v:α):(kF p l v).length=l.length+1:=by
 have:=alG p l;simp[kF];omega
variable {p:α->Bool}{l:List α}{k:Nat}
def OJ (hk:k<=l.length)(h1:∀j,k<=j->(h:j<l.length)->p l[j]=true)(h2:k=0\/∃c,l[k-1]?=some c/\p c=false):l.length-backs p l=k:=by
 have h3:l=l.take k++l.drop k:=(dL k l).symm;have h4:l.reverse=(l.drop k).reverse++(l.take k).reverse:=by rw[←List.reverse_append,←h3]
 have h5:∀x∈(l.drop k).reverse,p x=true:=by
  intro x hx;rw[List.mem_reverse]at hx;obtain⟨j,hj⟩:=dD hx;rw[dV]at hj;have hlt:=(aD.1 hj).1;have:=h1 (k+j) (by omega) hlt;rw[aB hlt]at hj
  rwa [k_Option_some_inj hj]at this
 have h6:((l.take k).reverse).takeWhile p=[]:=by
  rcases h2 with rfl|⟨c,hc,hp⟩
  ·simp
  ·by_cases hk0:k=0
   ·subst hk0;simp
   ·have h7:l.take k=l.take (k-1)++[c]:=by
     have:=dM hc
     rwa [show k-1+1=k by omega]at this
    rw[h7];simp[hp]
 have h8:backs p l=(l.drop k).length:=by
  unfold backs;rw[h4,List.takeWhile_append_of_pos h5,h6];simp
 rw[h8];simp;omega
def tY (v u:Ver):Bool:=decide (0<gX u v)
def iK (l:List Ver):List Ver:=l.foldl (fun out v=>kF (tY v) out v) []
def DT (v u:Ver):Bool:=decide (u.time<v.time)
def uL (l:List Ver):List Ver:=l.foldl (fun out v=>kF (DT v) out v) []
def EA (p:α->α->Bool):∀(l t:List α),(l.foldl (fun out v=>kF (p v) out v) t).length=t.length+l.length
 |[],t=>by simp
 |x::l,t=>by rw[k_List_foldl_cons,EA p l,PW];simp;omega
def adC (l:List Ver)(v:Ver):Nat:=(l.takeWhile fun u=>decide (gX u v<0)).length
def GD (l:List Ver)(v:Ver):Bool:=lC l&&fQ v&& !(l.any fun y=>decide (y=v))&&decide (l.length≠8)
def zS (l:List Ver)(v:Ver):List Ver:=if GD l v=true then l.take (adC l v)++[v]++l.drop (adC l v)else l
def axY (l:List Ver)(v:Ver):adC l v<=l.length:=(nY _).length_le
def ak0 (hk:k<=l.length)(h1:(l.take k).all p=true)(h2:k=l.length\/∃c,l[k]?=some c/\p c=false):(l.takeWhile p).length=k:=by
 have h3:l=l.take k++l.drop k:=(dL k l).symm;have h5:∀x∈l.take k,p x=true:=aI.1 h1
 have h6:(l.drop k).takeWhile p=[]:=by
  rcases h2 with rfl|⟨c,hc,hp⟩
  ·simp
  ·have hlt:=(aD.1 hc).1;rw[aX hlt];rw[aB hlt]at hc;rw[k_Option_some_inj hc];simp[hp]
 rw[h3,List.takeWhile_append_of_pos h5,h6];simp;omega
def vQ (cannot:List Ver)(st:L2×List Ver×List Ver)(v:Ver):L2×List Ver×List Ver:=
 if cannot.all (CR (oZ st.1 v.a v.b))=true then(oZ st.1 v.a v.b,zS (iK st.2.1) v,st.2.2)else(st.1,st.2.1,st.2.2++[v])
def JS (l:List Ver):L2×List Ver×List Ver:=(uL (vP (iD l))).foldl (vQ (apart (iD l))) ([],apart (iD l),[])
def sH (l:List Ver):List Ver:=iK (JS l).2.1
def jV (l:List Ver):List Ver:=iK (JS l).2.2
def P9 (g:L2)(items:L1)(i:Nat):Option Nat:=(List.range items.length).find? fun k=>decide (i<k)&&decide (eX g (at1 items k)=eX g (at1 items i))
def sV (g:L2)(items:L1)(i:Nat):List Con:=if 0<=eX g (at1 items i)then(match P9 g items i with|some k=>[⟨i,k,true⟩]|none=>[])else[]
def LM (g:L2)(items:L1):List Con:=(List.range items.length).flatMap (sV g items)
def nZ (kept:List Ver)(items:L1):List Con:=LM (joined kept) items++F7 (apart kept) items
def abB (g:L2)(items:L1)(i:Nat):(sV g items i).length<=1:=by
 unfold sV;split
 ·split<;>simp
 ·simp
end Go.Pl
end
section
namespace Go
def xA:= @Int.lt_or_le
def iA:= @Int.lt_trichotomy
end Go
end
section
namespace Go.Pl
open Go.Dv
def RG (l:L1):Prop:=∀k<l.length,0<=at1 l k/\∀v,0<=v->v<at1 l k->∃j<k,at1 l j=v
variable {b:L1}
def ajE {a:L1}(hl:a.length=b.length)(h:∀k<a.length,at1 a k=at1 b k):a=b:=by
 refine kC fun k=> ?_;by_cases hk:k<a.length
 ·rw[aY hk,aY,h k hk]
 ·rw[k_List_getElem__eq_none (by omega),k_List_getElem__eq_none (by omega)]
def RG.unique {a:L1}(hl:a.length=b.length)(ha:RG a)(hb:RG b)(h:∀i k,i<a.length->k<a.length->(at1 a i=at1 a k↔at1 b i=at1 b k)):a=b:=by
 refine ajE hl fun k hk=> ?_
 induction k using Nat.strongRecOn with
 |_ k ih=>
  rcases iA (at1 a k) (at1 b k)with hlt|he|hlt
  ·obtain⟨j,hj,e⟩:=(hb k (by omega)).2 (at1 a k) (ha k hk).1 hlt;have h1:=ih j hj (by omega);have h2:=(h j k (by omega) hk).1 (by omega);omega
  ·exact he
  ·obtain⟨j,hj,e⟩:=(ha k hk).2 (at1 b k) (hb k (by omega)).1 hlt;have h1:=ih j hj (by omega);have h2:=(h j k (by omega) hk).2 (by omega);omega
def aiN:∀(l:L1) (top:Int) (pre:L1), -1<=top->(∀v,0<=v->v<=top->∃j<pre.length,at1 pre j=v)->(∀j<pre.length,at1 pre j<=top)->RG (pre++l)->BO top l=true
 |[],_,_,_,_,_,_=>rfl
 |x::l,top,pre,ht,h1,h2,h=>by
  have hx:=h pre.length (by simp);have hat:at1 (pre++x::l) pre.length=x:=by simp[at1,aC]
  have hpre:∀j<pre.length,at1 (pre++x::l) j=at1 pre j:=fun j hj=>by simp[at1,aC,bA hj]
  rw[hat]at hx
  have hle:x<=top+1:=by
   rcases xA (top+1) x with hlt|hle
   ·by_cases h0:0<=top+1
    ·obtain⟨j,hj,e⟩:=hx.2 (top+1) h0 hlt;rw[hpre j hj]at e;have:=h2 j hj;omega
    ·by_cases hx0:x=0
     ·omega
     ·obtain⟨j,hj,e⟩:=hx.2 0 (by omega) (by omega);rw[hpre j hj]at e;have:=h2 j hj;omega
   ·exact hle
  simp only[BO,k_Bool_and_eq_true,decide_eq_true_eq];refine⟨⟨hx.1,hle⟩,aiN l (max top x) (pre++[x]) (by omega) (fun v hv hvt=> ?_) (fun j hj=> ?_) (by simpa using h)⟩
  ·by_cases hvt2:v<=top
   ·obtain⟨j,hj,e⟩:=h1 v hv hvt2;exact⟨j,by simp;omega,by rw[←e];simp[at1,aC,bA hj]⟩
   ·exact⟨pre.length,by simp,by simp[at1,aC];omega⟩
  ·by_cases hj2:j<pre.length
   ·have:=h2 j hj2;have e:at1 (pre++[x]) j=at1 pre j:=by simp[at1,aC,bA hj2]
    omega
   ·obtain rfl:j=pre.length:=by simp at hj;omega
    simp[at1,aC];omega
def aiM:∀(l:L1) (top:Int) (pre:L1), -1<=top->(∀v,0<=v->v<=top->∃j<pre.length,at1 pre j=v)->RG pre->BO top l=true->RG (pre++l)
 |[],_,pre,_,_,h,_=>by simpa using h
 |x::l,top,pre,ht,h1,h,hp=>by
  simp only[BO,k_Bool_and_eq_true,decide_eq_true_eq]at hp;have:=aiM l (max top x) (pre++[x]) (by omega) (fun v hv hvt=> ?_) (fun k hk=> ?_) hp.2
  ·simpa using this
  ·by_cases hvt2:v<=top
   ·obtain⟨j,hj,e⟩:=h1 v hv hvt2;exact⟨j,by simp;omega,by rw[←e];simp[at1,aC,bA hj]⟩
   ·exact⟨pre.length,by simp,by simp[at1,aC];omega⟩
  ·by_cases hk2:k<pre.length
   ·have e:∀j<pre.length,at1 (pre++[x]) j=at1 pre j:=fun j hj=>by simp[at1,aC,bA hj]
    rw[e k hk2];refine⟨(h k hk2).1,fun v hv hvl=> ?_⟩;obtain⟨j,hj,e2⟩:=(h k hk2).2 v hv hvl;exact⟨j,hj,by rw[e j (by omega),e2]⟩
   ·obtain rfl:k=pre.length:=by simp at hk;omega
    have e:at1 (pre++[x]) pre.length=x:=by simp[at1,aC]
    rw[e];refine⟨hp.1.1,fun v hv hvl=> ?_⟩;obtain⟨j,hj,e2⟩:=h1 v hv (by omega);exact⟨j,hj,by rw[←e2];simp[at1,aC,bA hj]⟩
def isPart_iff {l:L1}:gD l=true↔RG l/\1<=l.length/\l.length<=8:=by
 simp only[gD,k_Bool_and_eq_true,decide_eq_true_eq];constructor
 ·rintro⟨h1,h2⟩;have:=aiM l (-1) [] (by omega) (fun v h1 h2=>by omega) (fun k hk=>by simp at hk) h1;exact⟨by simpa using this,by omega⟩
 ·rintro⟨h1,h2⟩;exact⟨aiN l (-1) [] (by omega) (fun v h1 h2=>by omega) (fun j hj=>by simp at hj) (by simpa using h1),by omega⟩
inductive Reach (n:Nat) (M:List (List Bool)):Nat->Nat->Prop
 |refl (i:Nat):Reach n M i i
 |step {i a b:Nat}:Reach n M i a->a<n->b<n->atB M a b=true->Reach n M i b
variable {n:Nat}{M:List (List Bool)}{i a:Nat}
def Reach.trans {b:Nat}(h:Reach n M i a)(h2:Reach n M a b):Reach n M i b:=by
 induction h2 with
 |refl=>exact h
 |step _ ha hb hm ih=>exact .step ih ha hb hm
def ak6 (n:Nat)(M:List (List Bool)):Prop:=∀a b,a<n->b<n->atB M a b=true->atB M b a=true
def Reach.symm {n:Nat}{M:List (List Bool)}(hs:ak6 n M){i a:Nat}(h:Reach n M i a):Reach n M a i:=by
 induction h with
 |refl=>exact .refl _
 |step _ ha hb hm ih=>exact(Reach.step (.refl _) hb ha (hs _ _ ha hb hm)).trans ih
def Reach.lt (h:Reach n M i a)(hi:i<n):a<n:=by
 induction h with
 |refl=>exact hi
 |step _ _ hb _ _=>exact hb
def Reach.mono {M':List (List Bool)}(hm:∀a b,a<n->b<n->atB M a b=true->atB M' a b=true)(h:Reach n M i a):Reach n M' i a:=by
 induction h with
 |refl=>exact .refl _
 |step _ ha hb h ih=>exact .step ih ha hb (hm _ _ ha hb h)
def EX (n:Nat)(M:List (List Bool))(l:L1):Prop:=l.length=n/\RG l/\∀i k,i<n->k<n->(at1 l i=at1 l k↔Reach n M i k)
def EX.unique {a:L1}(ha:EX n M a)(hb:EX n M b):a=b:=
 RG.unique (by rw[ha.1,hb.1]) ha.2.1 hb.2.1 fun i k hi hk=>by
  rw[ha.1]at hi hk;rw[ha.2.2 i k hi hk,hb.2.2 i k hi hk]
structure Spr (n:Nat) (M:List (List Bool)) (x:Int) (o o':L1):Prop where
 len:o'.length=o.length
 old:∀k<n,at1 o k=x->at1 o' k=x
 new:∀k<n,at1 o' k=at1 o k\/(at1 o' k=x/\∃s<n,at1 o s=x/\Reach n M s k)
variable {x:Int}
def Spr.refl (o:L1):Spr n M x o o:=⟨rfl,fun _ _ h=>h,fun _ _=> .inl rfl⟩
def Spr.trans {a c:L1}(h:Spr n M x a b)(h':Spr n M x b c):Spr n M x a c:=by
 refine⟨h'.len.trans h.len,fun k hk e=>h'.old k hk (h.old k hk e),fun k hk=> ?_⟩;rcases h'.new k hk with e|⟨e,s,hs,e2,hr⟩
 ·rw[e];exact h.new k hk
 ·refine .inr ⟨e,?_⟩;rcases h.new s hs with e3|⟨_,t,ht,e4,hr2⟩
  ·exact⟨s,hs,by omega,hr⟩
  ·exact⟨t,ht,e4,hr2.trans hr⟩
variable {o:L1}
def ac5 {b:Nat}(hl:o.length=n)(ha:a<n)(hb:b<n):Spr n M x o (spB M x a b o)/\(at1 o a=x->atB M a b=true->at1 (spB M x a b o) b=x):=by
 unfold spB;split
 ·rename_i h;have hs:=fun k=>zJ (r:=o) (j:=b) (v:=x) k (by omega);refine⟨⟨by simp,fun k hk e=>by rw[hs];split<;>simp_all,fun k hk=> ?_⟩,fun _ _=>by rw[hs,if_pos rfl]⟩;rw[hs];split
  ·subst_vars;exact .inr ⟨rfl,a,ha,h.1,.step (.refl _) ha hb h.2⟩
  ·exact .inl rfl
 ·rename_i h;exact⟨.refl o,fun h1 h2=>absurd ⟨h1,h2⟩ h⟩
variable {f:Nat->L1->L1}
def RB {m:Nat}(hf:∀i o,i<m->o.length=n->Spr n M x o (f i o))(hl:o.length=n):Spr n M x o (loopN m o f):=by
 refine loopN_inv (fun _ o'=>Spr n M x o o') (.refl o) fun i o' hi h=>h.trans (hf i o' hi (h.len.trans hl))
def akT (ha:a<n)(hl:o.length=n):Spr n M x o (spA n M x a o):=RB (fun i o hi hl=>(ac5 hl ha hi).1) hl
variable {t:Nat}
def RO (hl:o.length=n):Spr n M x o (spS n M x t o):=RB (fun i o hi hl=>akT hi hl) hl
def aiB {m:Nat}(hi:i<m)(R:L1->L1->Prop)(hr:∀o,R o o)(ht:∀a b c,R a b->R b c->R a c)(n:Nat)(hl:o.length=n)(hlen:∀i o,i<m->o.length=n->(f i o).length=n/\R o (f i o)):∃p,R o p/\p.length=n/\R (f i p) (loopN m o f):=by
 induction m with
 |zero=>omega
 |succ m ih=>
  have hall:∀k≤m,(loopN k o f).length=n/\R o (loopN k o f):=by
   intro k hk
   induction k with
   |zero=>exact⟨hl,hr o⟩
   |succ k ihk=>
    rw[aM];have h1:=ihk (by omega);have h2:=hlen k _ (by omega) h1.1;exact⟨h2.1,ht _ _ _ h1.2 h2.2⟩
  rw[aM];by_cases him:i=m
  ·subst him;exact⟨_,(hall i (by omega)).2,(hall i (by omega)).1,hr _⟩
  ·obtain⟨p,h1,h2,h3⟩:=ih (by omega) fun i o hi hl=>hlen i o (by omega) hl;exact⟨p,h1,h2,ht _ _ _ h3 (hlen m _ (by omega) (hall m (by omega)).1).2⟩
def af8 (hl:o.length=n)(hsame:∀k<n,at1 (spS n M x t o) k=x->at1 o k=x){b:Nat}(ha:a<n)(hb:b<n)(h1:at1 o a=x)(h2:atB M a b=true):at1 o b=x:=by
 refine hsame b hb ?_;unfold spS;obtain⟨p,hp1,hp2,hp3⟩:=aiB (f:=spA n M x) (o:=o) ha (Spr n M x) (fun o=> .refl o) (fun _ _ _=> .trans) n hl (fun i o hi hl=>⟨(akT hi hl).len.trans hl,akT hi hl⟩);refine hp3.old b hb ?_;unfold spA;obtain⟨q,hq1,hq2,hq3⟩:=aiB (f:=spB M x a) (o:=p) hb (Spr n M x) (fun o=> .refl o) (fun _ _ _=> .trans) n hp2 (fun i o hi hl=>⟨(ac5 hl ha hi).1.len.trans hl,(ac5 hl ha hi).1⟩);exact hq3.old b hb ((ac5 hq2 ha hb).2 (hq1.old a ha (hp1.old a ha h1)) h2)
def cnt (x:Int)(o:L1):Nat:=(List.range o.length).countP fun k=>decide (at1 o k=x)
def aGU (x:Int)(o:L1):cnt x o<=o.length:=by
 have:=List.countP_le_length (p:=fun k=>decide (at1 o k=x)) (l:=List.range o.length);simpa[cnt]using this
def Y9 {α:Type}{p q:α->Bool}:∀{l:List α},(∀x∈l,p x=true->q x=true)->(∃x∈l,q x=true/\p x=false)->l.countP p<l.countP q
 |[],_,h=>by obtain⟨_,h,_⟩:=h;cases h
 |y::l,hm,h=>by
  have hle:l.countP p<=l.countP q:=List.countP_mono_left fun x hx=>hm x (aV _ hx);obtain⟨x,hx,h1,h2⟩:=h;rw[List.countP_cons,List.countP_cons];rcases aW.1 hx with rfl|hx
  ·simp[h1,h2];omega
  ·have:=Y9 (fun x hx=>hm x (aV _ hx)) ⟨x,hx,h1,h2⟩;have:=hm y (by simp);by_cases hp:p y=true
   ·simp[hp,this hp];omega
   ·simp[hp];omega
variable {o':L1}
def cnt_lt (hl:o.length=n)(h:Spr n M x o o')(hne:¬∀k<n,at1 o' k=x->at1 o k=x):cnt x o<cnt x o':=by
 unfold cnt;rw[h.len];refine Y9 (fun k hk hp=> ?_) ?_
 ·have:=h.old k (by rw[←hl];exact bB.1 hk) (by simpa using hp);simpa using this
 ·rw[Classical.not_forall]at hne;obtain⟨k,hk⟩:=hne;rw[Classical.not_forall]at hk;obtain⟨hkn,hk⟩:=hk;rw[Classical.not_imp]at hk;exact⟨k,bB.2 (by omega),by simpa using hk.1,by simpa using hk.2⟩
def ag1 (hl:o.length=n)(hx:∃s<n,at1 o s=x){b:Nat}(ha:a<n)(hb:b<n)(h1:at1 (spread n M x o) a=x)(h2:atB M a b=true):at1 (spread n M x o) b=x:=by
 have hr:∀i,Spr n M x o (loopN i o (spS n M x)):=fun i=>RB (fun _ _ _ hl=>RO hl) hl
 have key:∀i,(∃j<i,∀k<n,at1 (loopN (j+1) o (spS n M x)) k=x->at1 (loopN j o (spS n M x)) k=x)\/i+1<=cnt x (loopN i o (spS n M x)):=by
  intro i
  induction i with
  |zero=>
   refine .inr ?_;obtain⟨s,hs,e⟩:=hx;show 1<=cnt x o;unfold cnt;exact List.one_le_countP_iff.2 ⟨s,bB.2 (by omega),by simpa using e⟩
  |succ i ih=>
   rcases ih with⟨j,hj,h⟩|ih
   ·exact .inl ⟨j,by omega,h⟩
   ·by_cases hne:∀k<n,at1 (loopN (i+1) o (spS n M x)) k=x->at1 (loopN i o (spS n M x)) k=x
    ·exact .inl ⟨i,by omega,hne⟩
    ·refine .inr ?_;have hli:=(hr i).len.trans hl;have:=cnt_lt hli (by rw[aM];exact RO (t:=i) hli) hne;omega
 rcases key n with⟨j,hj,h⟩|h
 ·-- from there on the label is closed
  have hclo:∀i,j<=i->i<=n->∀k<n,at1 (loopN i o (spS n M x)) k=x->at1 (loopN j o (spS n M x)) k=x:=by
   intro i hji hin
   induction i with
   |zero=>obtain rfl:j=0:=by omega
          exact fun k _ e=>e
   |succ i ih=>
    by_cases hji2:j=i+1
    ·subst hji2;exact fun k _ e=>e
    ·intro k hk e;have hli:=(hr i).len.trans hl;have hlj:=(hr j).len.trans hl;refine ih (by omega) (by omega) k hk ?_;rw[aM]at e;rcases(RO (M:=M) (x:=x) (t:=i) hli).new k hk with e2|⟨e6,s,hs,e3,hre⟩
     ·rw[←e2];exact e
     ·have e4:=ih (by omega) (by omega) s hs e3;have hjc:∀a b,a<n->b<n->at1 (loopN j o (spS n M x)) a=x->atB M a b=true->at1 (loopN j o (spS n M x)) b=x:=fun a b ha hb h1 h2=>af8 (t:=j) hlj (by rw[aM]at h;exact h) ha hb h1 h2
      have e5:at1 (loopN j o (spS n M x)) k=x:=by
       clear hk e e6
       induction hre with
       |refl=>exact e4
       |step _ ha hb hm ih=>exact hjc _ _ ha hb ih hm
      have hji3:Spr n M x (loopN j o (spS n M x)) (loopN i o (spS n M x)):=by
       obtain⟨d,rfl⟩:∃d,i=j+d:=⟨i-j,by omega⟩;clear ih e e6 e3 e4 e5 hjc hre hli hin hji hji2
       induction d with
       |zero=>exact .refl _
       |succ d ih=>exact ih.trans (by rw[show j+(d+1)=(j+d)+1 by omega,aM];exact RO ((hr _).len.trans hl))
      exact hji3.old k hk e5
  have hlj:=(hr j).len.trans hl;have e1:=hclo n (by omega) (by omega) a ha h1;have e2:=af8 (t:=j) hlj (by rw[aM]at h;exact h) ha hb e1 h2
  have hjn:Spr n M x (loopN j o (spS n M x)) (loopN n o (spS n M x)):=by
   obtain⟨d,hd⟩:∃d,n=j+d:=⟨n-j,by omega⟩
   have:∀d,Spr n M x (loopN j o (spS n M x)) (loopN (j+d) o (spS n M x)):=by
    intro d
    induction d with
    |zero=>exact .refl _
    |succ d ih=>exact ih.trans (by rw[show j+(d+1)=(j+d)+1 by omega,aM];exact RO ((hr _).len.trans hl))
   have:=this d
   rwa [←hd]at this
  exact hjn.old b hb e2
 ·have:=aGU x (loopN n o (spS n M x));rw[(hr n).len,hl]at this;omega
def asE (hl:o.length=n):Spr n M x o (spread n M x o):=RB (fun _ _ _ hl=>RO hl) hl
structure zR (n:Nat) (M:List (List Bool)) (i:Nat) (s:L1×Int):Prop where
 len:s.1.length=n
 nx:0<=s.2
 lt:∀k<n, -1<=at1 s.1 k/\at1 s.1 k<s.2
 done:∀k<i,0<=at1 s.1 k
 seed:∀v,0<=v->v<s.2->∃j<i,at1 s.1 j=v
 rg:∀k<n,∀v,0<=v->v<at1 s.1 k->∃j<k,at1 s.1 j=v
 clo:∀a b,a<n->b<n->0<=at1 s.1 a->(at1 s.1 b=at1 s.1 a↔Reach n M a b)
def zR.step {n i:Nat}{M:List (List Bool)}(hs:ak6 n M)(hi:i<n){s:L1×Int}(h:zR n M i s){o:L1}(hl:o.length=n)(hx:∀k<n,(at1 o k=s.2↔Reach n M i k))(hold:∀k<n,¬Reach n M i k->at1 o k=at1 s.1 k)(h0:at1 s.1 i<0):zR n M (i+1) (o,s.2+1):=by
 have hnone:∀k<n,Reach n M i k->at1 s.1 k= -1:=fun k hk hr=>by
  have h1:=h.lt k hk;by_cases h2:0<=at1 s.1 k
  ·have:=(h.clo k i hk hi h2).2 (hr.symm hs);omega
  ·omega
 have hge:∀k<n,Reach n M i k->i<=k:=fun k hk hr=>by
  by_cases hik:i<=k
  ·exact hik
  ·have:=h.done k (by omega);have:=hnone k hk hr;omega
 have hkeep:∀j<i,at1 o j=at1 s.1 j:=fun j hj=>hold j (by omega) fun hr=>by have:=hge j (by omega) hr;omega
 refine⟨hl,by simp only;have:=h.nx;omega,fun k hk=> ?_,fun k hk=> ?_,fun v h1 h2=> ?_,fun k hk v h1 h2=> ?_,fun a b ha hb h1=> ?_⟩
 ·simp only;by_cases hr:Reach n M i k
  ·rw[(hx k hk).2 hr];have:=h.nx;omega
  ·rw[hold k hk hr];have:=h.lt k hk;omega
 ·simp only;by_cases hr:Reach n M i k
  ·rw[(hx k (by omega)).2 hr];exact h.nx
  ·rw[hold k (by omega) hr];have:k≠i:=fun e=>hr (e▸ .refl _);exact h.done k (by omega)
 ·simp only at h2|-
  by_cases hv:v=s.2
  ·exact⟨i,by omega,by rw[hv];exact(hx i hi).2 (.refl _)⟩
  ·obtain⟨j,hj,e⟩:=h.seed v h1 (by omega);exact⟨j,by omega,by rw[hkeep j hj,e]⟩
 ·simp only at h2|-
  by_cases hr:Reach n M i k
  ·rw[(hx k hk).2 hr]at h2;obtain⟨j,hj,e⟩:=h.seed v h1 h2;have:=hge k hk hr;exact⟨j,by omega,by rw[hkeep j hj,e]⟩
  ·rw[hold k hk hr]at h2;obtain⟨j,hj,e⟩:=h.rg k hk v h1 h2;refine⟨j,hj,?_⟩;rw[hold j (by omega),e];intro hrj;have:=hnone j (by omega) hrj;omega
 ·simp only at h1|-
  by_cases hra:Reach n M i a
  ·rw[(hx a ha).2 hra];rw[hx b hb];exact⟨fun h=>(hra.symm hs).trans h,fun h=>hra.trans h⟩
  ·rw[hold a ha hra]at h1|-
   by_cases hrb:Reach n M i b
   ·rw[(hx b hb).2 hrb];have:=h.lt a ha;constructor
    ·intro e;omega
    ·intro e;exact absurd (hrb.trans (e.symm hs)) hra
   ·rw[hold b hb hrb];exact h.clo a b ha hb h1
variable {s:L1×Int}
def anD (hs:ak6 n M)(hi:i<n)(h:zR n M i s):zR n M (i+1) (JL n M i s):=by
 unfold JL;split
 ·rename_i h0;exact⟨h.len,h.nx,h.lt,fun k hk=>by by_cases e:k=i;(subst e;exact h0);exact h.done k (by omega),fun v h1 h2=>by obtain⟨j,hj,e⟩:=h.seed v h1 h2;exact⟨j,by omega,e⟩,h.rg,h.clo⟩
 ·rename_i h0;have hil:i<s.1.length:=by rw[h.len];exact hi
  have hset:=fun k=>zJ (r:=s.1) (j:=i) (v:=s.2) k hil;have hl0:(s.1.set i s.2).length=n:=by simp[h.len]
  have hsp:=asE (M:=M) (x:=s.2) hl0;have hcl:=fun a b ha hb=>ag1 (M:=M) (x:=s.2) hl0 ⟨i,hi,by rw[hset,if_pos rfl]⟩ (a:=a) (b:=b) ha hb
  have hseed:∀k<n,(at1 (s.1.set i s.2) k=s.2↔k=i):=fun k hk=>by
   rw[hset];split
   ·simp_all
   ·rename_i hne;have:=h.lt k hk;constructor
    ·intro e;omega
    ·intro e;exact absurd e.symm hne
  have hx:∀k<n,(at1 (spread n M s.2 (s.1.set i s.2)) k=s.2↔Reach n M i k):=fun k hk=>by
   constructor
   ·intro e;rcases hsp.new k hk with e2|⟨_,t,ht,e3,hr⟩
    ·obtain rfl:=(hseed k hk).1 (by omega);exact .refl _
    ·obtain rfl:=(hseed t ht).1 e3;exact hr
   ·intro hr;clear hk
    induction hr with
    |refl=>exact hsp.old i hi ((hseed i hi).2 rfl)
    |step _ ha hb hm ih=>exact hcl _ _ ha hb ih hm
  have hold:∀k<n,¬Reach n M i k->at1 (spread n M s.2 (s.1.set i s.2)) k=at1 s.1 k:=fun k hk hn=>by
   rcases hsp.new k hk with e2|⟨e,_⟩
   ·rw[e2,hset,if_neg];rintro rfl;exact hn (.refl _)
   ·exact absurd ((hx k hk).1 e) hn
  exact h.step hs hi (by rw[hsp.len,hl0]) hx hold (by omega)
def zR.start :zR n M 0 (List.replicate n (-1),0):=by
 have hrep:∀k<n,at1 (List.replicate n (-1)) k= -1:=fun k hk=>by simp[at1,aC,hk]
 exact⟨by simp,by simp,fun k hk=>by simp only;rw[hrep k hk];omega,fun k hk=>by omega,fun v h1 h2=>by simp only at h2;omega,fun k hk v h1 h2=>by simp only at h2;rw[hrep k hk]at h2;omega,fun a b ha hb h1=>by simp only at h1;rw[hrep a ha]at h1;omega⟩
def zR.is (h:zR n M n s):EX n M s.1:=by
 refine⟨h.len,fun k hk=>⟨h.done k (by rw[h.len]at hk;exact hk),h.rg k (by rw[h.len]at hk;exact hk)⟩,fun i k hi hk=> ?_⟩;rw[eq_comm];exact h.clo i k hi hk (h.done i hi)
def acV (hs:ak6 n M):EX n M (anE n M).1:=
 zR.is (s:=anE n M) (loopN_inv (zR n M) .start fun i s hi h=>anD hs hi h)
def dfs (n:Nat)(m:L2)(c:Int):Nat->Nat->L1->L1
 |0,_,o=>o
 |f+1,i,o=>loopN n (o.set i c) fun k o=>if 0<at2 m i k/\at1 o k<0 then dfs n m c f k o else o
def L8 (n:Nat)(m:L2)(i:Nat)(s:L1×Int):L1×Int:=if at1 s.1 i<0 then(dfs n m s.2 n i s.1,s.2+1)else s
def acQ (n:Nat)(m:L2):L1×Int:=loopN n (List.replicate n (-1),0) (L8 n m)
def negs (n:Nat)(o:L1):Nat:=(List.range n).countP fun k=>decide (at1 o k<0)
def aiF (h:∀k<n,0<=at1 o k->0<=at1 o' k):negs n o'<=negs n o:=
 List.countP_mono_left fun k hk hp=>by
  have:=h k (bB.1 hk);simp only[decide_eq_true_eq]at hp|-
  omega
variable {c:Int}
def YA (hl:o.length=n)(hi:i<n)(h:at1 o i<0)(hc:0<=c):negs n (o.set i c)<negs n o:=by
 have hs:=fun k=>zJ (r:=o) (j:=i) (v:=c) k (by omega);refine Y9 (fun k hk hp=> ?_) ⟨i,bB.2 hi,by simpa using h,?_⟩
 ·simp only[decide_eq_true_eq]at hp|-
  rw[hs]at hp;split at hp<;>omega
 ·rw[hs,if_pos rfl];simp;omega
def atS (n:Nat)(o:L1):negs n o<=n:=by
 have:=List.countP_le_length (p:=fun k=>decide (at1 o k<0)) (l:=List.range n);simpa[negs]using this
structure Dfs (n:Nat) (M:List (List Bool)) (c:Int) (i:Nat) (o o':L1):Prop where
 len:o'.length=n
 keep:∀k<n,0<=at1 o k->at1 o' k=at1 o k
 new:∀k<n,at1 o' k=at1 o k\/(at1 o k<0/\at1 o' k=c/\Reach n M i k)
 self:at1 o' i=c
 clo:∀a b,a<n->b<n->at1 o a<0->at1 o' a=c->atB M a b=true->0<=at1 o' b
def aIE (n:Nat)(M:List (List Bool))(c:Int)(i:Nat)(o:L1)(j:Nat)(p:L1):Prop:=
 p.length=n/\(∀k<n,0<=at1 o k->at1 p k=at1 o k)/\(∀k<n,at1 p k=at1 o k\/(at1 o k<0/\at1 p k=c/\Reach n M i k))/\at1 p i=c/\(∀k<n,0<=at1 (o.set i c) k->0<=at1 p k)/\
    (∀a b,a<n->b<n->at1 o a<0->at1 p a=c->atB M a b=true->(a=i->b<j)->0<=at1 p b)
variable {m:L2}
def ayR (hM:∀a b,a<n->b<n->(0<at2 m a b↔atB M a b=true))(hc:0<=c):∀(f i:Nat) (o:L1),o.length=n->i<n->at1 o i<0->negs n o<=f->Dfs n M c i o (dfs n m c f i o)
 |0,i,o,hl,hi,h0,hf=>by
  have:=YA hl hi h0 hc;omega
 |f+1,i,o,hl,hi,h0,hf=>by
  have hs:=fun k=>zJ (r:=o) (j:=i) (v:=c) k (by omega);have hng:=YA hl hi h0 hc
  have key:∀j≤n,aIE n M c i o j (loopN j (o.set i c) fun k o=>if 0<at2 m i k/\at1 o k<0 then dfs n m c f k o else o):=by
   intro j hj;refine loopN_inv (n:=j) (f:=fun k o=>if 0<at2 m i k/\at1 o k<0 then dfs n m c f k o else o) (aIE n M c i o) ?_ fun t p ht hp=> ?_
   ·refine⟨by simp[hl],fun k hk h=> ?_,fun k hk=> ?_,by rw[hs,if_pos rfl],fun k hk h=>h,fun a b ha hb h1 h2 h3 h4=> ?_⟩
    ·rw[hs,if_neg];rintro rfl;omega
    ·rw[hs];split
     ·subst_vars;exact .inr ⟨h0,rfl,.refl _⟩
     ·exact .inl rfl
    ·rw[hs]at h2;split at h2
     ·rename_i e;exact absurd (h4 e.symm) (by omega)
     ·omega
   ·obtain⟨p1,p2,p3,p4,p5,p6⟩:=hp;split
    ·rename_i hcd;have hng2:negs n p<=f:=by have:=aiF (n:=n) p5;omega
     have hd:=ayR hM hc f t p p1 (by omega) hcd.2 hng2;have hit:Reach n M i t:= .step (.refl _) hi (by omega) ((hM i t hi (by omega)).1 hcd.1);refine⟨hd.len,fun k hk h=> ?_,fun k hk=> ?_,?_,fun k hk h=> ?_,fun a b ha hb h1 h2 h3 h4=> ?_⟩
     ·rw[hd.keep k hk (by rw[p2 k hk h];exact h),p2 k hk h]
     ·rcases hd.new k hk with e|⟨e1,e2,e3⟩
      ·rw[e];exact p3 k hk
      ·refine .inr ⟨?_,e2,hit.trans e3⟩;rcases p3 k hk with e4|⟨e4,_⟩
       ·omega
       ·exact e4
     ·rw[hd.keep i hi (by omega),p4]
     ·rw[hd.keep k hk (p5 k hk h)];exact p5 k hk h
     ·by_cases hpa:at1 p a=c
      ·-- it had its label before
       by_cases hai:a=i
       ·by_cases hbt:b=t
        ·subst hbt;rw[hd.self];exact hc
        ·have hb2:=p6 a b ha hb h1 hpa h3 (fun e=>by have:=h4 e;omega);rw[hd.keep b hb hb2];exact hb2
       ·have hb2:=p6 a b ha hb h1 hpa h3 (fun e=>absurd e hai);rw[hd.keep b hb hb2];exact hb2
      ·have hpa0:at1 p a<0:=by
        rcases p3 a ha with e|⟨_,e,_⟩
        ·omega
        ·exact absurd e hpa
       exact hd.clo a b ha hb hpa0 h2 h3
    ·rename_i hcd;refine⟨p1,p2,p3,p4,p5,fun a b ha hb h1 h2 h3 h4=> ?_⟩;by_cases hai:a=i
     ·by_cases hbt:b=t
      ·subst hbt;by_cases h5:0<=at1 p b
       ·exact h5
       ·exact absurd ⟨(hM i b hi hb).2 (hai▸h3),by omega⟩ hcd
      ·exact p6 a b ha hb h1 h2 h3 (fun e=>by have:=h4 e;omega)
     ·exact p6 a b ha hb h1 h2 h3 (fun e=>absurd e hai)
  obtain⟨p1,p2,p3,p4,p5,p6⟩:=key n (k_Nat_le_refl n);exact⟨p1,p2,p3,p4,fun a b ha hb h1 h2 h3=>p6 a b ha hb h1 h2 h3 fun _=>hb⟩
def amD (hM:∀a b,a<n->b<n->(0<at2 m a b↔atB M a b=true))(hs:ak6 n M)(hi:i<n)(h:zR n M i s):zR n M (i+1) (L8 n m i s):=by
 unfold L8;split
 ·rename_i h0;have hd:=ayR hM h.nx n i s.1 h.len hi h0 (atS _ _)
  have hx:∀k<n,(at1 (dfs n m s.2 n i s.1) k=s.2↔Reach n M i k):=fun k hk=>by
   constructor
   ·intro e;rcases hd.new k hk with e2|⟨_,_,hr⟩
    ·have:=h.lt k hk;omega
    ·exact hr
   ·intro hr;clear hk
    induction hr with
    |refl=>exact hd.self
    | @step a b _ ha hb hm ih=>
     have hla:=h.lt a ha
     have ha0:at1 s.1 a<0:=by
      rcases hd.new a ha with e2|⟨e,_⟩
      ·omega
      ·exact e
     have hb1:=hd.clo a b ha hb ha0 ih hm;rcases hd.new b hb with e2|⟨_,e,_⟩
     ·exfalso;have:=(h.clo b a hb ha (by omega)).2 (.step (.refl _) hb ha (hs _ _ ha hb hm));omega
     ·exact e
  refine h.step hs hi hd.len hx (fun k hk hr=> ?_) h0;rcases hd.new k hk with e|⟨_,_,e⟩
  ·exact e
  ·exact absurd e hr
 ·rename_i h0;exact⟨h.len,h.nx,h.lt,fun k hk=>by by_cases e:k=i;(subst e;omega);exact h.done k (by omega),fun v h1 h2=>by obtain⟨j,hj,e⟩:=h.seed v h1 h2;exact⟨j,by omega,e⟩,h.rg,h.clo⟩
def aqK (hM:∀a b,a<n->b<n->(0<at2 m a b↔atB M a b=true))(hs:ak6 n M):EX n M (acQ n m).1:=
 zR.is (s:=acQ n m) (loopN_inv (zR n M) .start fun i s hi h=>amD hM hs hi h)
def ayP (hM:∀a b,a<n->b<n->(0<at2 m a b↔atB M a b=true))(hs:ak6 n M):(acQ n m).1=(anE n M).1:=(aqK hM hs).unique (acV hs)
end Go.Pl
end
section
namespace Go
def nN:= @Nat.add_sub_cancel
end Go
end
section
namespace Go.Pl
open Go.Dv
def ed (x y:Str)(tr:Bool):Nat->Nat->Int
 |0,j=>j
 |i+1,0=>(i+1:Nat)
 |i+1,j+1=>
  if wM x y tr (i+1) (j+1)=true then min (if chr x i=chr y j then ed x y tr i j else 1+min (min (ed x y tr i (j+1)) (ed x y tr (i+1) j)) (ed x y tr i j)) (ed x y tr (i-1) (j-1)+1)
  else if chr x i=chr y j then ed x y tr i j else 1+min (min (ed x y tr i (j+1)) (ed x y tr (i+1) j)) (ed x y tr i j)
termination_by i j=>i+j
decreasing_by all_goals omega
variable {i:Nat}
section
variable {x y:Str}{tr:Bool}
def ed_zero (j:Nat):ed x y tr 0 j=j:=by rw[ed]
def ed_zero' (i:Nat):ed x y tr i 0=i:=by cases i<;>simp[ed]
def edV (x y:Str)(tr:Bool)(i j:Nat):Int:=if chr x i=chr y j then ed x y tr i j else 1+min (min (ed x y tr i (j+1)) (ed x y tr (i+1) j)) (ed x y tr i j)
def D8 (i j:Nat):ed x y tr (i+1) (j+1)=if wM x y tr (i+1) (j+1)=true then min (edV x y tr i j) (ed x y tr (i-1) (j-1)+1)else edV x y tr i j:=by rw[ed];rfl
def aGY:∀(s i j:Nat),i+j=s->ed x y tr i (j+1)<=ed x y tr i j+1/\ed x y tr i j<=ed x y tr i (j+1)+1/\ed x y tr (i+1) j<=ed x y tr i j+1/\ed x y tr i j<=ed x y tr (i+1) j+1/\ed x y tr (i+1) (j+1)<=ed x y tr i j+1:=by
 intro s
 induction s using Nat.strongRecOn with
 |_ s ih=>
  intro i j hs
  have hsw:∀i j,wM x y tr (i+1) (j+1)=true->∃i' j',i=i'+1/\j=j'+1:=fun i j h=>by
   simp only[wM,k_Bool_and_eq_true,decide_eq_true_eq]at h;exact⟨i-1,j-1,by omega,by omega⟩
  have hE:ed x y tr (i+1) (j+1)<=ed x y tr i j+1:=by
   rw[D8];unfold edV;split<;>split<;>omega
  refine⟨?_,?_,?_,?_,hE⟩
  ·cases i with
   |zero=>rw[ed_zero,ed_zero];omega
   |succ i=>
    have h1:=ih (i+j) (by omega) i j rfl;rw[D8];unfold edV;split<;>split<;>omega
  ·cases i with
   |zero=>rw[ed_zero,ed_zero];omega
   |succ i=>
    have h1:=ih (i+j) (by omega) i j rfl;rw[D8];unfold edV;split
    ·rename_i h;obtain⟨i',j',rfl,rfl⟩:=hsw i j h;have h2:=ih (i'+j') (by omega) i' j' rfl;simp only[nN];split<;>omega
    ·split<;>omega
  ·cases j with
   |zero=>rw[ed_zero',ed_zero'];omega
   |succ j=>
    have h1:=ih (i+j) (by omega) i j rfl;rw[D8];unfold edV;split<;>split<;>omega
  ·cases j with
   |zero=>rw[ed_zero',ed_zero'];omega
   |succ j=>
    have h1:=ih (i+j) (by omega) i j rfl;rw[D8];unfold edV;split
    ·rename_i h;obtain⟨i',j',rfl,rfl⟩:=hsw i j h;have h2:=ih (i'+j') (by omega) i' j' rfl;simp only[nN];split<;>omega
    ·split<;>omega
def aGZ (i j:Nat):min (min (ed x y tr i (j+1)+1) (ed x y tr (i+1) j+1)) (ed x y tr i j+if chr x i=chr y j then 0 else 1)=edV x y tr i j:=by
 have h:=aGY (x:=x) (y:=y) (tr:=tr) (i+j) i j rfl;unfold edV;split<;>omega
def edR (x y:Str)(tr:Bool)(i k:Nat):L1:=(List.range k).map (ed x y tr i)
def asU {k j:Nat}(h:j<k):at1 (edR x y tr i k) j=ed x y tr i j:=by simp[at1,edR,aC,h]
def acO {n k j:Nat}(hi:i<n:=by omega)(h:j<k:=by omega):at2 ((List.range n).map fun i=>edR x y tr i k) i j=ed x y tr i j:=by
 have:=asU (x:=x) (y:=y) (tr:=tr) (i:=i) h;simpa[at2,at1,aC,hi]using this
def ayX :aeC x y tr i ((List.range i).map fun i=>edR x y tr i (y.length+1))=edR x y tr i (y.length+1):=by
 have h:(fun(j:Nat) (r:L1)=>r.length=y.length+1/\∀k<j,at1 r k=ed x y tr i k) (y.length+1) (aeC x y tr i ((List.range i).map fun i=>edR x y tr i (y.length+1))):=by
  refine loopN_inv (fun(j:Nat) (r:L1)=>r.length=y.length+1/\∀k<j,at1 r k=ed x y tr i k) ⟨by simp,by omega⟩ fun j r hj ⟨h1,h2⟩=> ?_
  have h3:edOne x y ((List.range i).map fun i=>edR x y tr i (y.length+1)) i r j=(if i=0 then(j:Int)else if j=0 then(i:Int)else edV x y tr (i-1) (j-1)):=by
   unfold edOne;split
   ·rfl
   ·split
    ·rfl
    ·obtain⟨i,rfl⟩:∃k,i=k+1:=⟨i-1,by omega⟩;obtain⟨j,rfl⟩:∃k,j=k+1:=⟨j-1,by omega⟩;simp only[nN];rw[acO,acO,h2 j (by omega)];rfl
  unfold GL ahO;have hset:=zJ (r:=r) (j:=j) (v:=edOne x y ((List.range i).map fun i=>edR x y tr i (y.length+1)) i r j);split
  ·rename_i hw;have hw2:=hw;simp only[wM,k_Bool_and_eq_true,decide_eq_true_eq]at hw2;refine⟨by simp[h1],fun k hk=> ?_⟩;rw[zJ _ (by simp;omega),hset _ (by omega),hset _ (by omega),if_pos rfl];split
   ·rename_i e;subst e;rw[h3,if_neg (by omega),if_neg (by omega),acO];obtain⟨i,rfl⟩:∃k,i=k+2:=⟨i-2,by omega⟩;obtain⟨j,rfl⟩:∃k,j=k+2:=⟨j-2,by omega⟩;rw[D8,if_pos hw];rfl
   ·exact h2 k (by omega)
  ·rename_i hw;refine⟨by simp[h1],fun k hk=> ?_⟩;rw[hset _ (by omega)];split
   ·rename_i e;subst e;rw[h3];split
    ·rename_i e;rw[e,ed_zero]
    ·split
     ·rename_i e;rw[e,ed_zero']
     ·obtain⟨i,rfl⟩:∃k,i=k+1:=⟨i-1,by omega⟩;obtain⟨j,rfl⟩:∃k,j=k+1:=⟨j-1,by omega⟩;rw[D8,if_neg hw];rfl
   ·exact h2 k (by omega)
 have h1:(aeC x y tr i ((List.range i).map fun i=>edR x y tr i (y.length+1))).length=y.length+1:=h.1;refine ajE (by rw[h1];simp[edR]) fun k hk=> ?_;rw[h1]at hk;rw[h.2 k hk,asU hk]
def aqL:Q7 x y tr=(List.range (x.length+1)).map fun i=>edR x y tr i (y.length+1):=by
 refine loopN_inv (fun i (T:L2)=>T=(List.range i).map fun i=>edR x y tr i (y.length+1)) rfl fun i T _ h=> ?_;rw[h,ayX,Z9]
def ZB:qX x y=if GK x y=true then ed x y false x.length y.length else -1:=by
 unfold qX;rw[aqL,acO]
def aqM (i j:Nat):0<=ed x y tr i j/\ed x y tr i j<=i+j:=by
 suffices∀s i j,i+j=s->0<=ed x y tr i j/\ed x y tr i j<=i+j from this _ i j rfl
 intro s
 induction s using Nat.strongRecOn with
 |_ s ih=>
  intro i j hs;cases i with
  |zero=>rw[ed_zero];omega
  |succ i=>
   cases j with
   |zero=>rw[ed_zero'];omega
   |succ j=>
    have h1:=ih (i+j) (by omega) i j rfl;have h2:=ih (i+(j+1)) (by omega) i (j+1) rfl;have h3:=ih (i+1+j) (by omega) (i+1) j rfl;have h4:=ih (i-1+(j-1)) (by omega) (i-1) (j-1) rfl;rw[D8];unfold edV;split<;>split<;>omega
end
end Go.Pl
end
section
namespace Go
def oQ:= @List.Pairwise.filter
def sP:= @List.filter_congr
def qZ:= @List.filter_cons_of_neg
def mV:= @List.filter_cons_of_pos
def sG:= @List.filter_eq_nil_iff
def rA:= @List.getElem?_cons_succ
def dW:= @List.mem_filter
def dX:= @List.pairwise_cons
def qU:= @List.takeWhile_cons
def oJ:= @Nat.lt_trichotomy
end Go
end
section
namespace Go.Pl
open Go.Dv
def kE:∀(a:Str),ltL a a=false
 |[]=>rfl
 |a::x=>by have h:=kE x;unfold ltL at*;rw[Op.bytesLess,h];simp
def AO:∀{a b c:Str},ltL a b=true->ltL b c=true->ltL a c=true
 |_,[],_,h,_=>by unfold ltL at h;rw[Op.bytesLess]at h;cases h
 |_,_::_,[],_,h=>by unfold ltL at h;rw[Op.bytesLess]at h;cases h
 |[],_::_,_::_,_,_=>by unfold ltL;rw[Op.bytesLess]
 |a::x,b::y,c::z,h,h'=>by
  unfold ltL at*
  rw[Op.bytesLess]at*
  simp only[bM,decide_eq_true_eq,k_Bool_and_eq_true,beq_iff_eq]at*
  rcases h with h|⟨rfl,h⟩
  ·rcases h' with h'|⟨rfl,h'⟩
   ·exact .inl (UInt8.lt_trans h h')
   ·exact .inl h
  ·rcases h' with h'|⟨rfl,h'⟩
   ·exact .inl h'
   ·exact .inr ⟨rfl,AO h h'⟩
def FX:∀(a b:Str),ltL a b=true\/a=b\/ltL b a=true
 |[],[]=> .inr (.inl rfl)
 |[],_::_=> .inl (by unfold ltL;rw[Op.bytesLess])
 |_::_,[]=> .inr (.inr (by unfold ltL;rw[Op.bytesLess]))
 |a::x,b::y=>by
  unfold ltL;rw[Op.bytesLess,Op.bytesLess];simp only[bM,decide_eq_true_eq,k_Bool_and_eq_true,beq_iff_eq];rcases oJ a.toNat b.toNat with h|h|h
  ·exact .inl (.inl (UInt8.lt_iff_toNat_lt.2 h))
  ·obtain rfl:=k_UInt8_toNat_inj.1 h;rcases FX x y with h|rfl|h
   ·exact .inl (.inr ⟨rfl,h⟩)
   ·exact .inr (.inl rfl)
   ·exact .inr (.inr (.inr ⟨rfl,h⟩))
  ·exact .inr (.inr (.inl (UInt8.lt_iff_toNat_lt.2 h)))
def DL {a b:Str}(h:ltL a b=true):ltL b a=false:=by
 cases h2:ltL b a with
 |false=>rfl
 |true=>have:=AO h h2;rw[kE]at this;cases this
abbrev Asc (l:List Str):Prop:=l.Pairwise fun a b=>ltL a b=true
def VN:∀{l:List Str},adj ltL l=true↔Asc l
 |[]=>by simp
 |[a]=>by simp[adj]
 |a::b::l=>by
  have ih:=VN (l:=b::l);simp only[adj,k_Bool_and_eq_true,ih,dX,aW];constructor
  ·rintro⟨h1,h2,h3⟩;refine⟨fun x hx=> ?_,h2,h3⟩;rcases hx with rfl|hx
   ·exact h1
   ·exact AO h1 (h2 x hx)
  ·rintro⟨h1,h2,h3⟩;exact⟨h1 b (.inl rfl),h2,h3⟩
def Asc.unique:∀{a b:List Str},Asc a->Asc b->(∀x,x∈a↔x∈b)->a=b
 |[],[],_,_,_=>rfl
 |[],y::_,_,_,h=>by have:=(h y).2 (by simp);cases this
 |x::_,[],_,_,h=>by have:=(h x).1 (by simp);cases this
 |x::a,y::b,ha,hb,h=>by
  obtain⟨ha1,ha2⟩:=dX.1 ha;obtain⟨hb1,hb2⟩:=dX.1 hb
  have hxy:x=y:=by
   rcases FX x y with h1|h1|h1
   ·rcases aW.1 ((h x).1 (by simp))with e|e
    ·exact e
    ·have:=DL (hb1 x e);rw[h1]at this;cases this
   ·exact h1
   ·rcases aW.1 ((h y).2 (by simp))with e|e
    ·exact e.symm
    ·have:=DL (ha1 y e);rw[h1]at this;cases this
  subst hxy;congr 1;refine Asc.unique ha2 hb2 fun z=> ?_;have hz:=h z;constructor
  ·intro hm;rcases aW.1 (hz.1 (aV _ hm))with e|e
   ·subst e;have:=ha1 z hm;rw[kE]at this;cases this
   ·exact e
  ·intro hm;rcases aW.1 (hz.2 (aV _ hm))with e|e
   ·subst e;have:=hb1 z hm;rw[kE]at this;cases this
   ·exact e
def QR (y:Str)(l:List Str)(x:Str):jW (y::l) x false=if ltL y x=true then y::jW l x false else if y=x then y::l else x::y::l:=by
 unfold jW CO;by_cases h:ltL y x=true
 ·simp only[qU,h,if_true,aS,rA,kK,List.drop_succ_cons,fZ];split<;>simp_all
 ·simp only[qU,h,if_false,dR,jI,List.getElem?_cons_zero,List.take_zero,List.drop_zero,aJ];split
  ·simp_all
  ·simp_all
def BU:∀{l:List Str}{x z:Str},z∈jW l x false↔z∈l\/z=x
 |[],x,z=>by simp[jW,CO]
 |y::l,x,z=>by
  rw[QR];split
  ·rw[aW,BU (l:=l),aW,or_assoc]
  ·split
   ·subst_vars
    constructor
    ·exact .inl
    ·rintro(h|rfl)
     ·exact h
     ·simp
   ·simp only[aW];constructor
    ·rintro(h|h|h)<;>simp[h]
    ·rintro((h|h)|h)<;>simp[h]
def VH:∀{l:List Str}{x:Str},Asc l->Asc (jW l x false)
 |[],x,_=>by simp[jW,CO]
 |y::l,x,h=>by
  obtain⟨h1,h2⟩:=dX.1 h;rw[QR];split
  ·rename_i hlt;refine dX.2 ⟨fun z hz=> ?_,VH h2⟩;rcases BU.1 hz with hz|rfl
   ·exact h1 z hz
   ·exact hlt
  ·split
   ·exact h
   ·rename_i h3 h4
    have hxy:ltL x y=true:=by
     rcases FX x y with e|e|e
     ·exact e
     ·exact absurd e.symm h4
     ·exact absurd e h3
    refine dX.2 ⟨fun z hz=> ?_,h⟩;rcases aW.1 hz with rfl|hz
    ·exact hxy
    ·exact AO hxy (h1 z hz)
def K8 {f:List Str->Str->List Str}{p:Str->Prop}{g:Str->Str}(hp:∀t x,p x->f t x=jW t (g x) false)(hn:∀t x,¬p x->f t x=t):∀(l t:List Str),Asc t->Asc (l.foldl f t)/\∀z,z∈l.foldl f t↔z∈t\/∃x∈l,p x/\z=g x
 |[],t,h=>⟨h,fun z=>by simp⟩
 |y::l,t,h=>by
  by_cases hy:p y
  ·obtain⟨h1,h2⟩:=K8 hp hn l _ (VH (x:=g y) h);simp only[k_List_foldl_cons,hp t y hy];refine⟨h1,fun z=> ?_⟩;rw[h2,BU];simp only[aW,exists_eq_or_imp,hy,true_and,or_assoc]
  ·obtain⟨h1,h2⟩:=K8 hp hn l t h;simp only[k_List_foldl_cons,hn t y hy];refine⟨h1,fun z=> ?_⟩;rw[h2];simp only[aW,exists_eq_or_imp,hy,false_and,false_or]
def VI (s:Str):Asc (tokens s)/\∀z,z∈tokens s↔z∈ad6 32 (normal s)/\z≠[]:=by
 obtain⟨h1,h2⟩:=K8 (f:=xX) (p:=fun x=>x≠[]) (g:=id) (fun t x h=>if_pos h) (fun t x h=>if_neg h) (ad6 32 (normal s)) [] .nil;refine⟨h1,fun z=>(h2 z).trans ?_⟩;constructor
 ·rintro(h|⟨x,h3,h4,rfl⟩)
  ·cases h
  ·exact⟨h3,h4⟩
 ·rintro⟨h3,h4⟩;exact .inr ⟨z,h3,h4,rfl⟩
def TJ (s:Str):Asc (mK s)/\∀z,z∈mK s↔∃t∈tokens s,jK t≠[]/\z=jK t:=by
 obtain⟨h1,h2⟩:=K8 (f:=xR) (p:=fun x=>jK x≠[]) (g:=jK) (fun t x h=>if_pos h) (fun t x h=>if_neg h) (tokens s) [] .nil;exact⟨h1,fun z=>(h2 z).trans (by simp)⟩
def J4 (b:List Str)(x:Str):Bool:=b.any fun y=>decide (y=x)
def hasL_iff {b:List Str}{x:Str}:J4 b x=true↔x∈b:=by simp[J4]
def ad2 (a b:List Str):Asc (common a b)/\∀z,z∈common a b↔z∈a/\z∈b:=by
 obtain⟨h1,h2⟩:=K8 (f:=I6 b) (p:=fun x=>J4 b x=true) (g:=id) (fun t x h=>if_pos h) (fun t x h=>if_neg h) a [] .nil;refine⟨h1,fun z=>(h2 z).trans ?_⟩;constructor
 ·rintro(h|⟨x,h3,h4,rfl⟩)
  ·cases h
  ·exact⟨h3,hasL_iff.1 h4⟩
 ·rintro⟨h3,h4⟩;exact .inr ⟨z,h3,hasL_iff.2 h4,rfl⟩
def mcount:List Str->List Str->Nat
 |[],_=>0
 |_::_,[]=>0
 |a::x,b::y=>if ltL a b=true then mcount x (b::y)else if ltL b a=true then mcount (a::x) y else mcount x y+1
termination_by x y=>x.length+y.length
def amJ {a:List Str}{p:Str->Bool}(h:∀x∈a,p x=false):a.filter p=[]:=sG.2 fun x hx=>by simp[h x hx]
def RF:∀{a b:List Str},Asc a->Asc b->mcount a b=(a.filter (J4 b)).length
 |[],b,_,_=>by rw[mcount];rfl
 |a::x,[],_,_=>by rw[mcount,amJ (p:=J4 []) (fun _ _=>rfl)];rfl
 |a::x,b::y,ha,hb=>by
  obtain⟨ha1,ha2⟩:=dX.1 ha;obtain⟨hb1,hb2⟩:=dX.1 hb;rw[mcount];split
  ·rename_i h;rw[RF ha2 hb,qZ];intro hm;rcases aW.1 (hasL_iff.1 hm)with rfl|hm
   ·rw[kE]at h;cases h
   ·have:=AO h (hb1 a hm);rw[kE]at this;cases this
  ·rename_i h;split
   ·rename_i h2;rw[RF ha hb2];congr 1;refine sP fun z hz=> ?_;rw[bQ,hasL_iff,hasL_iff,aW];constructor
    ·exact .inr
    ·rintro(rfl|h3)
     ·exfalso;rcases aW.1 hz with rfl|hz
      ·rw[kE]at h2;cases h2
      ·have:=AO h2 (ha1 z hz);rw[kE]at this;cases this
     ·exact h3
   ·rename_i h2
    have hab:a=b:=by
     rcases FX a b with e|e|e
     ·exact absurd e h
     ·exact e
     ·exact absurd e h2
    subst hab;rw[RF ha2 hb2,mV (hasL_iff.2 (by simp)),aS];congr 2;refine sP fun z hz=> ?_;rw[bQ,hasL_iff,hasL_iff,aW];constructor
    ·exact .inr
    ·rintro(rfl|h3)
     ·exfalso;have:=ha1 z hz;rw[kE]at this;cases this
     ·exact h3
termination_by x y=>x.length+y.length
def au5 {a b:List Str}(ha:Asc a):common a b=a.filter (J4 b):=
 Asc.unique (ad2 a b).1 (oQ _ ha) fun z=>by rw[(ad2 a b).2,dW,hasL_iff]
def ag3 {l:List Str}(hl:Asc l)(x:Str):(jW l x false).length=l.length+if J4 l x then 0 else 1:=by
 induction l with
 |nil=>simp[jW,CO,J4]
 |cons y l ih=>
  obtain⟨h1,h2⟩:=dX.1 hl;rw[QR];split
  ·rename_i h;have hyx:y≠x:=fun e=>by subst e;rw[kE]at h;cases h
   have:J4 (y::l) x=J4 l x:=by simp[J4,hyx]
   rw[this,aS,ih h2,aS];omega
  ·split
   ·rename_i h;have:J4 (y::l) x=true:=hasL_iff.2 (by simp[h]);rw[this];simp
   ·rename_i h h3
    have:J4 (y::l) x=false:=by
     rw[jZ];intro hm;rcases aW.1 (hasL_iff.1 hm)with e|e
     ·exact h3 e.symm
     ·have:=h1 x e;exact h this
    rw[this];simp
def asL {a b:List Str}(ha:Asc a)(hb:Asc b):(Y0 a b).length+(a.filter (J4 b)).length=a.length+b.length:=by
 have h1:a.foldl xY []=a:=by
  obtain⟨h1,h2⟩:=K8 (f:=xY) (p:=fun _=>True) (g:=id) (fun t x h=>rfl) (fun t x h=>absurd trivial h) a [] .nil;exact Asc.unique h1 ha fun z=>(h2 z).trans (by simp)
 have h2:∀(b t:List Str),Asc b->Asc t->(b.foldl xY t).length+(b.filter (J4 t)).length=t.length+b.length:=by
  intro b
  induction b with
  |nil=>intro t _ _;simp
  |cons y b ih=>
   intro t hb ht;obtain⟨hb1,hb2⟩:=dX.1 hb;have h3:=ih (jW t y false) hb2 (VH ht);have h4:=ag3 ht y
   have h5:b.filter (J4 (jW t y false))=b.filter (J4 t):=sP fun z hz=>by
    rw[bQ,hasL_iff,hasL_iff,BU];constructor
    ·rintro(h|rfl)
     ·exact h
     ·have:=hb1 z hz;rw[kE]at this;cases this
    ·exact .inl
   rw[h5]at h3;simp only[k_List_foldl_cons,aS];show(b.foldl xY (jW t y false)).length+_=_;by_cases h:J4 t y=true
   ·rw[mV h,aS];rw[h]at h4;simp at h4;omega
   ·rw[qZ h];simp only[h,dR,if_false]at h4;omega
 have h3:=h2 b a hb ha
 have h4:b.filter (J4 a)=a.filter (J4 b):=Asc.unique (oQ _ hb) (oQ _ ha) fun z=>by
  rw[dW,dW,hasL_iff,hasL_iff,and_comm]
 unfold Y0;rw[h1,←h4];exact h3
def UX (a b:List Str):BJ a b=if wO a b=true then(if(a.length:Int)+b.length-mcount a b=0 then 1000 else(1000*(mcount a b:Int)).tdiv ((a.length:Int)+b.length-mcount a b))else 0:=by
 unfold BJ;split
 ·rename_i h;simp only[wO,qA,k_Bool_and_eq_true]at h;have ha:=VN.1 h.1.2;have hb:=VN.1 h.2.2;have h1:=asL ha hb;rw[RF ha hb,au5 ha,ratio];have h2:((Y0 a b).length:Int)=a.length+b.length-(a.filter (J4 b)).length:=by omega
  rw[h2]
 ·rfl
def JW (c:UInt8):Bool:=(decide (97<=c.toNat)&&decide (c.toNat<=122))||(decide (48<=c.toNat)&&decide (c.toNat<=57))
def TM (c:UInt8):JW c=true↔xJ c=true/\iU c=c:=by
 simp only[JW,xJ,bM,k_Bool_and_eq_true,decide_eq_true_eq];constructor
 ·intro h;exact⟨by omega,RD⟩
 ·rintro⟨h1,h2⟩;rcases h1 with h1|h1
  ·rcases h1 with h1|h1
   ·exact .inl h1
   ·exfalso;have:=acW h1.1 h1.2;rw[h2]at this;omega
  ·exact .inr h1
def aFR (c:Str):SN c=(decide (c≠[])&&c.all JW):=by
 unfold SN wJ;rw[xP];congr 1;rw[bQ,k_Bool_and_eq_true,decide_eq_true_eq,aI,aI];constructor
 ·rintro⟨h1,h2⟩ x hx;refine(TM x).2 ⟨h1 x hx,?_⟩;have:=List.map_inj_left.1 (h2.trans (List.map_id c).symm) x hx;simpa using this
 ·intro h;refine⟨fun x hx=>((TM x).1 (h x hx)).1,?_⟩;exact(wG fun x hx=>((TM x).1 (h x hx)).2).trans (by simp)
def blkIn (l:L1)(i:Nat)(o:L2):L2:=if at1 l i=o.length then o++[[]]else o
def oM (l:L1)(i:Nat)(o:L2):L2:=(blkIn l i o).set (at1 l i).toNat (gat (blkIn l i o) (at1 l i).toNat++[(i:Int)])
def blocksP (l:L1):L2:=loopN l.length [] (oM l)
structure agL (l:L1) (i:Nat) (o:L2):Prop where
 lt:∀j<i,at1 l j<o.length
 ex:∀v:Int,0<=v->v<o.length->∃j<i,at1 l j=v
 len:o.length<=i
 row:∀v:Nat,v<o.length->gat o v=((List.range i).filter fun j=>decide (at1 l j=v)).map fun j:Nat=>(j:Int)
variable {k:Nat}
def atF {o:L2}{r:L1}(v:Nat)(hk:k<o.length):gat (o.set k r) v=if k=v then r else gat o v:=by
 simp only[gat,aC,kD];by_cases h:k=v
 ·subst h;simp[hk]
 ·simp[h]
def azU (o:L2)(r:L1)(v:Nat):gat (o++[r]) v=if v=o.length then r else gat o v:=by
 simp only[gat,aC];by_cases h:v<o.length
 ·rw[bA h,if_neg (by omega)]
 ·by_cases h2:v=o.length
  ·subst h2;simp
  ·rw[if_neg h2,k_List_getElem__eq_none (by simp;omega),k_List_getElem__eq_none (by omega)]
def agL.zero (l:L1):agL l 0 []:=⟨fun j hj=>by omega,fun v h1 h2=>by simp at h2;omega,by simp,fun v hv=>by simp at hv⟩
variable {i:Nat}
def agL.le {l:L1}{o:L2}(h:agL l i o)(hr:RG l)(hi:i<l.length):0<=at1 l i/\at1 l i<=o.length:=by
 obtain⟨h1,h2⟩:=hr i hi;refine⟨h1,?_⟩;rcases xA (o.length:Int) (at1 l i)with hlt|hle
 ·obtain⟨j,hj,e⟩:=h2 o.length (by omega) hlt;have:=h.lt j hj;omega
 ·exact hle
def agL.step {l:L1}{i:Nat}{o:L2}(h:agL l i o)(hr:RG l)(hi:i<l.length):(at1 l i).toNat<(blkIn l i o).length/\agL l (i+1) (oM l i o):=by
 have hle:=h.le hr hi
 have hin:(blkIn l i o).length=(if at1 l i=o.length then o.length+1 else o.length)/\∀v:Nat,gat (blkIn l i o) v=if v<o.length then gat o v else[]:=by
  unfold blkIn;split
  ·refine⟨by simp,fun v=> ?_⟩;rw[azU];split
   ·rw[if_neg (by omega)]
   ·split
    ·rfl
    ·simp[gat,aC,k_List_getElem__eq_none (show o.length<=v by omega)]
  ·refine⟨rfl,fun v=> ?_⟩;split
   ·rfl
   ·simp[gat,aC,k_List_getElem__eq_none (show o.length<=v by omega)]
 have hlt:(at1 l i).toNat<(blkIn l i o).length:=by rw[hin.1];split<;>omega
 refine⟨hlt,?_⟩;have hlen:(oM l i o).length=(if at1 l i=o.length then o.length+1 else o.length):=by simp[oM,hin.1]
 refine⟨fun j hj=> ?_,fun v h1 h2=> ?_,?_,fun v hv=> ?_⟩
 ·by_cases hji:j=i
  ·subst hji;rw[hlen];split<;>omega
  ·have:=h.lt j (by omega);rw[hlen];split<;>omega
 ·rw[hlen]at h2;by_cases hv:v<o.length
  ·obtain⟨j,hj,e⟩:=h.ex v h1 hv;exact⟨j,by omega,e⟩
  ·refine⟨i,by omega,?_⟩;split at h2<;>omega
 ·have:=h.len;rw[hlen];split<;>omega
 ·rw[hlen]at hv;rw[oM,atF v hlt,hin.2,hin.2,dY,fA,eB];by_cases hvi:(at1 l i).toNat=v
  ·rw[if_pos hvi];have hd:decide (at1 l i=(v:Int))=true:=by simp;omega
   simp only[List.filter_cons,hd,if_true,List.filter_nil,fC,List.map_nil];congr 1;rw[hvi];split
   ·rename_i hvo;exact h.row v hvo
   ·-- a row that is new:no earlier item has its label
    rename_i hvo;rw[sG.2,List.map_nil];intro j hj;have:=h.lt j (bB.1 hj);simp;omega
  ·rw[if_neg hvi];have hd:decide (at1 l i=(v:Int))=false:=by simp;omega
   have hvo:v<o.length:=by
    split at hv
    ·omega
    ·exact hv
   simp[hd,if_pos hvo,h.row v hvo]
def blocksI {l:L1}(hr:RG l)(hi:i<=l.length):agL l i (loopN i [] (oM l)):=by
 induction i with
 |zero=>exact .zero l
 |succ i ih=>rw[aM];exact((ih (by omega)).step hr (by omega)).2
def kN (m:L2)(items:L1):L2:=items.map fun x=>items.map fun y=>at2 m x.toNat y.toNat
def OC (n:Nat)(items:L1):Prop:=(∀x∈items,0<=x/\x<n)/\items.Pairwise (·<·)
structure S20 where
 best:L1
 cost:Int
 count:Int
def ap7 (cs:List Con)(l:L1):Bool:=cs.any fun c=>decide (c.b=(l.length:Int)-1)&&(decide (at1 l c.a.toNat=at1 l (l.length-1)) !=c.same)
def BV (m:L2)(l:L1)(k:Int)(n i:Nat):Int:=if at2 m i n>0/\at1 l i≠k then at2 m i n else if at2 m i n<0/\at1 l i=k then-at2 m i n else 0
def adB (m:L2)(l:L1)(k:Int)(n:Nat)(c:Int):Int:=loopN n c fun i s=>s+BV m l k n i
def UY (l:L1)(cost:Int)(s:S20):S20:=if s.cost<0\/cost<s.cost then⟨l,cost,1⟩else⟨s.best,s.cost,s.count+1⟩
def TZ (cost:Int)(s:S20):Prop:=0<=s.cost/\s.cost<cost
instance(cost:Int) (s:S20):Decidable (TZ cost s):=by unfold TZ;infer_instance
def walk20 (m:L2)(cs:List Con):Nat->L1->Int->Int->S20->S20
 |0,l,_,cost,s=>if TZ cost s then s else UY l cost s
 |d+1,l,top,cost,s=>if TZ cost s then s else loopN (top+2).toNat s fun k s=>if ap7 cs (l++[(k:Int)])=true then s else walk20 m cs d (l++[(k:Int)]) (max top k) (adB m l k l.length cost) s
def DR (m:L2)(cs:List Con)(d:Nat)(l:L1)(top cost:Int)(k:Nat)(s:S20):S20:=if ap7 cs (l++[(k:Int)])=true then s else walk20 m cs d (l++[(k:Int)]) (max top k) (adB m l k l.length cost) s
def walk20_succ (m:L2)(cs:List Con)(d:Nat)(l:L1)(top cost:Int)(s:S20):walk20 m cs (d+1) l top cost s=if TZ cost s then s else loopN (top+2).toNat s (DR m cs d l top cost):=rfl
def abA (m:L2)(cs:List Con):S20:=walk20 m cs m.length [] (-1) 0 ⟨[], -1,0⟩
def ayM {m:L2}(h:bR m=true)(l:L1)(k:Int)(n i:Nat):0<=BV m l k n i/\BV m l k n i<=1000:=by
 have:=iP h i n;unfold BV;split
 ·omega
 ·split<;>omega
def axX {m:L2}(h:bR m=true)(l:L1)(k:Int)(n:Nat)(c:Int)(j:Nat):c<=loopN j c (fun i s=>s+BV m l k n i)/\loopN j c (fun i s=>s+BV m l k n i)<=c+1000*j:=
 loopN_inv (fun j x=>c<=x/\x<=c+1000*j) (by omega) fun i x _ hx=>by have:=ayM h l k n i;omega
def aJL (d:Nat):1<=9^d:=Nat.one_le_pow _ _ (by omega)
structure W20 (d:Nat) (n:Nat) (s s':S20):Prop where
 lo:0<=s.count->0<=s'.count
 hi:0<=s.count->s'.count<=s.count+(9^d:Nat)
 best:s'.best=s.best\/s'.best.length=n
def apV {m:L2}{cs:List Con}:∀(d:Nat) (l:L1) (top cost:Int) (s:S20),top+2+d<=9->W20 d (l.length+d) s (walk20 m cs d l top cost s)
 |0,l,top,cost,s,_=>by
  unfold walk20;split
  ·exact⟨id,fun h=>by simp;omega,.inl rfl⟩
  ·unfold UY;split
   ·exact⟨fun _=>by simp,fun h=>by simp;omega,.inr rfl⟩
   ·exact⟨fun h=>by simp only;omega,fun h=>by simp,.inl rfl⟩
 |d+1,l,top,cost,s,ht=>by
  rw[walk20_succ];have hp:=aJL d;split
  ·exact⟨id,fun h=>by omega,.inl rfl⟩
  ·have key:∀j≤(top+2).toNat,(0<=s.count->0<=(loopN j s (DR m cs d l top cost)).count/\(loopN j s (DR m cs d l top cost)).count<=s.count+((j*9^d:Nat):Int))/\((loopN j s (DR m cs d l top cost)).best=s.best\/(loopN j s (DR m cs d l top cost)).best.length=l.length+(d+1)):=by
    intro j hj
    induction j with
    |zero=>exact⟨fun h=>⟨h,by simp[loopN_zero]⟩,.inl rfl⟩
    |succ j ih=>
     obtain⟨i1,i2⟩:=ih (by omega);rw[aM];generalize loopN j s (DR m cs d l top cost)=x at i1 i2|-
     unfold DR;have hmul:(j+1)*9^d=j*9^d+9^d:=by rw[k_Nat_add_mul,Nat.one_mul]
     split
     ·exact⟨fun h=>⟨(i1 h).1,by have:=(i1 h).2;rw[hmul];omega⟩,i2⟩
     ·have h3:=apV (m:=m) (cs:=cs) d (l++[(j:Int)]) (max top j) (adB m l j l.length cost) x (by omega);refine⟨fun h=>⟨h3.lo (i1 h).1,by have:=h3.hi (i1 h).1;have:=(i1 h).2;rw[hmul];omega⟩,?_⟩;rcases h3.best with e|e
      ·rw[e];exact i2
      ·right;rw[e,aP,eD];omega
   obtain⟨k1,k2⟩:=key _ (k_Nat_le_refl _);have hm:(top+2).toNat*9^d<=9*9^d:=aZ _ (by omega);have hs:9^(d+1)=9*9^d:=by rw[Nat.pow_succ,qK]
   exact⟨fun h=>(k1 h).1,fun h=>by have:=(k1 h).2;rw[hs];omega,k2⟩
def nE (cs:List Con)(l:L1):Bool:=cs.all (yB l)
def mM (m:L2)(cs:List Con)(l:L1)(s:S20):S20:=
 if nE cs l=true then(if s.cost<0\/dP m l<s.cost then⟨l,dP m l,1⟩else if dP m l=s.cost then⟨s.best,s.cost,s.count+1⟩else s)else s
def pU (f:L1->S20->S20):Nat->L1->Nat->S20->S20
 |0,l,_,s=>f l s
 |d+1,l,nx,s=>loopN (nx+1) s fun x s=>pU f d (l++[(x:Int)]) (max nx (x+1)) s
def yE (m:L2)(cs:List Con):S20:=pU (mM m cs) m.length [] 0 ⟨[], -1,0⟩
def okP (cs:List Con)(l:L1):Prop:=∀c∈cs,c.b<l.length->decide (at1 l c.a.toNat=at1 l c.b.toNat)=c.same
def lI (l:L1)(k:Int)(i:Nat):at1 (l++[k]) i=if i<l.length then at1 l i else if i=l.length then k else 0:=by
 simp only[at1,aC];by_cases h:i<l.length
 ·rw[bA h,if_pos h]
 ·rw[if_neg h];by_cases h2:i=l.length
  ·subst h2;simp
  ·rw[if_neg h2,k_List_getElem__eq_none (by simp;omega)];rfl
variable {x:Nat}
variable {n:Nat}
section
variable {m:L2}{cs:List Con}
def afO {n:Int}(hc:dA n cs=true)(l:L1)(k:Int):okP cs (l++[k])↔okP cs l/\ap7 cs (l++[k])=false:=by
 have hn:=(mE hc).2.2.2;have hlen:(l++[k]).length=l.length+1:=by simp
 constructor
 ·intro h;refine⟨fun c hcs hb=> ?_,?_⟩
  ·have:=h c hcs (by rw[hlen];omega);have h2:=hn c hcs;rw[lI,lI,if_pos (by omega),if_pos (by omega)]at this;exact this
  ·rw[ap7,iC];intro c hcs hb;simp only[k_Bool_and_eq_true,decide_eq_true_eq,bne_iff_ne,ne_eq]at hb;have h2:=hn c hcs;have:=h c hcs (by rw[hlen]at hb|-;omega);apply hb.2;rw[←this,hlen];have e:c.b.toNat=l.length:=by rw[hlen]at hb;omega
   rw[e];rfl
 ·rintro⟨h1,h2⟩ c hcs hb;have h3:=hn c hcs;by_cases hlt:c.b<l.length
  ·have:=h1 c hcs hlt;rw[lI,lI,if_pos (by omega),if_pos (by omega)];exact this
  ·rw[ap7,iC]at h2;have h4:=h2 c hcs;rw[hlen]at hb h4;have e:c.b.toNat=l.length:=by omega
   simp only[k_Bool_and_eq_true,decide_eq_true_eq,bne_iff_ne,ne_eq,not_and,Classical.not_not]at h4;rw[e];exact h4 (by omega)
def Z4 {n:Int}(hc:dA n cs=true){l:L1}(hl:(l.length:Int)=n):nE cs l=true↔okP cs l:=by
 have hn:=(mE hc).2.2.2;rw[nE,aI];constructor
 ·intro h c hcs hb;have:=h c hcs;simp only[yB,k_Bool_and_eq_true,beq_iff_eq]at this;exact this.2
 ·intro h c hcs;have h2:=hn c hcs;have:=h c hcs (by omega);simp only[yB,k_Bool_and_eq_true,beq_iff_eq,decide_eq_true_eq];exact⟨⟨by omega,by omega⟩,this⟩
def aE4 {n:Int}(hc:dA n cs=true){l:L1}(h:¬okP cs l)(k:Int):¬okP cs (l++[k]):=fun h2=>h ((afO hc l k).1 h2).1
def ahM {n:Int}(hc:dA n cs=true):∀(d:Nat) (l:L1) (nx:Nat) (s:S20),((l.length+d:Nat):Int)=n->¬okP cs l->pU (mM m cs) d l nx s=s
 |0,l,nx,s,hl,h=>by
  rw[pU,mM,if_neg];intro hk;exact h ((Z4 hc (by simpa using hl)).1 hk)
 |d+1,l,nx,s,hl,h=>by
  rw[pU];refine loopN_inv (fun _ x=>x=s) rfl fun i x _ hx=> ?_;rw[hx];exact ahM hc d _ _ s (by simp only[aP,eD];omega) (aE4 hc h _)
def VP (hm:bR m=true)(i k:Nat):at2 m i k=at2 m k i:=by
 by_cases hi:i<m.length
 ·by_cases hk:k<m.length
  ·simp only[bR,k_Bool_and_eq_true,aI,bB]at hm;have:=hm.1.2 i hi k hk;simp only[IE,k_Bool_and_eq_true,decide_eq_true_eq]at this;exact this.1.2
  ·obtain⟨r,hr,hrl⟩:=DJ hm hi;simp[at2,aC,hr,k_List_getElem__eq_none (show r.length<=k by omega),k_List_getElem__eq_none (show m.length<=k by omega)]
 ·by_cases hk:k<m.length
  ·obtain⟨r,hr,hrl⟩:=DJ hm hk;simp[at2,aC,hr,k_List_getElem__eq_none (show r.length<=i by omega),k_List_getElem__eq_none (show m.length<=i by omega)]
  ·simp[at2,aC,k_List_getElem__eq_none (show m.length<=i by omega),k_List_getElem__eq_none (show m.length<=k by omega)]
def xE {σ:Type}{s:σ}{f g:Nat->σ->σ}(h:∀i x,i<n->f i x=g i x):loopN n s f=loopN n s g:=by
 have:∀k≤n,loopN k s f=loopN k s g:=by
  intro k hk
  induction k with
  |zero=>rfl
  |succ k ih=>rw[aM,aM,ih (by omega),h _ _ (by omega)]
 exact this n (k_Nat_le_refl n)
def TF (hm:bR m=true)(l:L1)(k:Int):dP m (l++[k])=adB m l k l.length (dP m l):=by
 unfold dP;rw[aP,eD,aM]
 have h1:loopN l.length 0 (zK m (l++[k]))=loopN l.length 0 (zK m l):=xE fun i x hi=>by
  unfold zK;refine xE fun j y hj=> ?_
  have:tC m (l++[k]) i j=tC m l i j:=by
   have e1:at1 (l++[k]) i=at1 l i:=by rw[lI,if_pos hi]
   have e2:at1 (l++[k]) j=at1 l j:=by rw[lI,if_pos (by omega)]
   unfold tC;rw[e1,e2]
  rw[this]
 rw[h1];unfold zK adB;refine xE fun j y hj=> ?_;congr 1;have e1:at1 (l++[k]) l.length=k:=by rw[lI,if_neg (by omega),if_pos rfl]
 have e2:at1 (l++[k]) j=at1 l j:=by rw[lI,if_pos hj]
 unfold tC BV;rw[e1,e2,VP hm l.length j];by_cases e:at1 l j=k
 ·simp[e]
 ·have e2:¬k=at1 l j:=fun h=>e h.symm;simp[e,e2]
def ag0 (hm:bR m=true)(l:L1)(k:Int):dP m l<=dP m (l++[k]):=by
 rw[TF hm];exact(axX hm l k l.length (dP m l) l.length).1
def aeB (hm:bR m=true):∀(d:Nat) (l:L1) (nx:Nat) (s:S20),TZ (dP m l) s->pU (mM m cs) d l nx s=s
 |0,l,nx,s,h=>by
  unfold TZ at h;rw[pU,mM];split
  ·rw[if_neg (by omega),if_neg (by omega)]
  ·rfl
 |d+1,l,nx,s,h=>by
  unfold TZ at h;rw[pU];refine loopN_inv (fun _ x=>x=s) rfl fun i x _ hx=> ?_;rw[hx];refine aeB hm d _ _ s ?_;have:=ag0 hm l (i:Int);unfold TZ;omega
def ai7 (hm:bR m=true)(hc:dA m.length cs=true):∀(d:Nat) (l:L1) (top:Int) (s:S20),l.length+d=m.length-> -1<=top->okP cs l->walk20 m cs d l top (dP m l) s=pU (mM m cs) d l (top+1).toNat s
 |0,l,top,s,hl,ht,ho=>by
  have hk:=(Z4 hc (l:=l) (by omega)).2 ho;rw[walk20,pU,mM,if_pos hk];split
  ·rename_i h;unfold TZ at h;rw[if_neg (by omega),if_neg (by omega)]
  ·rename_i h;unfold TZ at h;unfold UY;split
   ·rfl
   ·rw[if_pos (by omega)]
 |d+1,l,top,s,hl,ht,ho=>by
  rw[walk20_succ];split
  ·rename_i h;rw[aeB hm _ _ _ _ h]
  ·rw[pU,show(top+2).toNat=(top+1).toNat+1 by omega];refine xE fun i x hi=> ?_;unfold DR;have hlen:(l++[(i:Int)]).length=l.length+1:=by simp
   split
   ·rename_i hb;rw[ahM hc d _ _ x (by rw[hlen];omega)];intro h2;have:=((afO hc l i).1 h2).2;rw[hb]at this;cases this
   ·rename_i hb;have hok:=(afO hc l i).2 ⟨ho,by simpa using hb⟩;rw[←TF hm,ai7 hm hc d _ _ x (by rw[hlen];omega) (by omega) hok];congr 1;omega
def YO (hm:bR m=true)(hc:dA m.length cs=true):abA m cs=yE m cs:=
 ai7 hm hc m.length [] (-1) _ (by simp) (by omega) (fun c hcs hb=>by have:=(mE hc).2.2.2 c hcs;simp at hb;omega)
def VM {l:L1}{nx:Nat}(hl:RG l)(hnx:∀v:Int,0<=v->v<nx->∃j<l.length,at1 l j=v)(hx:x<=nx:=by omega):RG (l++[(x:Int)]):=by
 intro k hk;simp only[aP,eD]at hk;by_cases hkl:k<l.length
 ·rw[lI,if_pos hkl];refine⟨(hl k hkl).1,fun v h1 h2=> ?_⟩;obtain⟨j,hj,e⟩:=(hl k hkl).2 v h1 h2;exact⟨j,hj,by rw[lI,if_pos (by omega),e]⟩
 ·obtain rfl:k=l.length:=by omega
  rw[lI,if_neg (by omega),if_pos rfl];refine⟨by omega,fun v h1 h2=> ?_⟩;obtain⟨j,hj,e⟩:=hnx v h1 (by omega);exact⟨j,hj,by rw[lI,if_pos hj,e]⟩
def akJ {l:L1}{nx:Nat}(hnx:∀v:Int,0<=v->v<nx->∃j<l.length,at1 l j=v)(hx:x<=nx:=by omega):∀v:Int,0<=v->v<(max nx (x+1):Nat)->∃j<(l++[(x:Int)]).length,at1 (l++[(x:Int)]) j=v:=by
 intro v h1 h2;by_cases hv:v<nx
 ·obtain⟨j,hj,e⟩:=hnx v h1 hv;exact⟨j,by simp;omega,by rw[lI,if_pos hj,e]⟩
 ·exact⟨l.length,by simp,by rw[lI,if_neg (by omega),if_pos rfl];omega⟩
def Found (n:Nat)(s:S20):Prop:= -1<=s.cost/\(0<=s.cost->RG s.best/\s.best.length=n)
def kQ (hm:bR m=true)(l:L1):0<=dP m l:=by
 refine loopN_inv (fun _ x=>0<=x) (by omega) fun i x _ hx=> ?_;refine loopN_inv (fun _ y=>0<=y) hx fun k y _ hy=> ?_;have:=iP hm i k;unfold tC;split
 ·omega
 ·split<;>omega
def OW (hm:bR m=true):∀(d:Nat) (l:L1) (nx:Nat) (s:S20),RG l->(∀v:Int,0<=v->v<nx->∃j<l.length,at1 l j=v)->Found (l.length+d) s->Found (l.length+d) (pU (mM m cs) d l nx s)/\(0<=s.cost->0<=(pU (mM m cs) d l nx s).cost)
 |0,l,nx,s,hl,hnx,hs=>by
  have hp:=kQ hm l;rw[pU,mM];split
  ·split
   ·exact⟨⟨by simp only;omega,fun _=>⟨hl,rfl⟩⟩,fun _=>hp⟩
   ·split
    ·exact⟨⟨hs.1,hs.2⟩,fun h=>h⟩
    ·exact⟨hs,fun h=>h⟩
  ·exact⟨hs,fun h=>h⟩
 |d+1,l,nx,s,hl,hnx,hs=>by
  rw[pU];refine loopN_inv (fun _ x=>Found (l.length+(d+1)) x/\(0<=s.cost->0<=x.cost)) ⟨hs,fun h=>h⟩ fun i x hi ⟨h1,h2⟩=> ?_;have hlen:(l++[(i:Int)]).length+d=l.length+(d+1):=by simp;omega
  have h3:=OW hm d (l++[(i:Int)]) (max nx (i+1)) x (VM hl hnx) (akJ hnx) (by rw[hlen];exact h1);rw[hlen]at h3;exact⟨h3.1,fun h=>h3.2 (h2 h)⟩
def aaQ (hm:bR m=true):∀(d:Nat) (l e:L1) (nx:Nat) (s:S20),RG (l++e)->e.length=d->(∀v:Int,0<=v->v<nx->∃j<l.length,at1 l j=v)->(∀j<l.length,at1 l j<nx)->RG l->Found (l.length+d) s->nE cs (l++e)=true->0<=(pU (mM m cs) d l nx s).cost
 |0,l,e,nx,s,hr,he,hnx,hlt,hl,hs,hk=>by
  obtain rfl:e=[]:=bD he;rw[bZ]at hk;have hp:=kQ hm l;rw[pU,mM,if_pos hk];split
  ·exact hp
  ·split
   ·simp only;omega
   ·omega
 |d+1,l,e,nx,s,hr,he,hnx,hlt,hl,hs,hk=>by
  cases e with
  |nil=>simp at he
  |cons x e=>
   have hlx:at1 (l++x::e) l.length=x:=by simp[at1,aC]
   have hx:=hr l.length (by simp);rw[hlx]at hx
   have hxn:x<=nx:=by
    rcases xA (nx:Int) x with hlt2|hle
    ·obtain⟨j,hj,ej⟩:=hx.2 nx (by omega) hlt2;have e2:at1 (l++x::e) j=at1 l j:=by simp[at1,aC,bA hj]
     rw[e2]at ej;have:=hlt j hj;omega
    ·exact hle
   obtain⟨x,rfl⟩:∃k:Nat,x=k:=⟨x.toNat,by omega⟩;rw[pU]
   have key:∀j≤nx+1,Found (l.length+(d+1)) (loopN j s fun x s=>pU (mM m cs) d (l++[(x:Int)]) (max nx (x+1)) s)/\(x<j->0<=(loopN j s fun x s=>pU (mM m cs) d (l++[(x:Int)]) (max nx (x+1)) s).cost):=by
    intro j hj
    induction j with
    |zero=>exact⟨hs,by omega⟩
    |succ j ih=>
     obtain⟨i1,i2⟩:=ih (by omega);rw[aM];generalize(loopN j s fun x s=>pU (mM m cs) d (l++[(x:Int)]) (max nx (x+1)) s)=y at i1 i2|-
     have hlen:(l++[(j:Int)]).length+d=l.length+(d+1):=by simp;omega
     have h3:=OW (cs:=cs) hm d (l++[(j:Int)]) (max nx (j+1)) y (VM hl hnx) (akJ hnx) (by rw[hlen];exact i1);rw[hlen]at h3;refine⟨h3.1,fun hlt2=> ?_⟩;by_cases hjx:j=x
     ·subst hjx;refine aaQ hm d (l++[(j:Int)]) e (max nx (j+1)) y (by simpa using hr) (by simpa using he) (akJ hnx) (fun i hi=> ?_) (VM hl hnx) (by rw[hlen];exact i1) (by simpa using hk);rw[lI];simp only[aP,eD]at hi;split
      ·have:=hlt i (by omega);omega
      ·split<;>omega
     ·exact h3.2 (i2 (by omega))
   exact(key (nx+1) (k_Nat_le_refl _)).2 (by omega)
def apX:RG []:=fun k hk=>by simp at hk
def ajG (hm:bR m=true):Found m.length (yE m cs):=by
 have:=(OW (cs:=cs) hm m.length [] 0 ⟨[], -1,0⟩ apX (fun v h1 h2=>by omega) ⟨by simp,fun h=>by simp at h⟩).1;simpa[yE]using this
def ajH (hm:bR m=true){L:L1}(hL:RG L)(hl:L.length=m.length)(hk:nE cs L=true):0<=(yE m cs).cost:=
 aaQ hm m.length [] L 0 _ (by simpa using hL) hl (fun v h1 h2=>by omega) (fun j hj=>by simp at hj) apX ⟨by simp,fun h=>by simp at h⟩ (by simpa using hk)
end
def adJ {M:List (List Bool)}(h:sqB n M){a b:Nat}(hi:i<n)(hk:k<n)(v:Bool):atB (SL M i k v) a b=if a=i/\b=k then v else atB M a b:=by
 obtain⟨r,hr,hrl,hrk⟩:=YU h hi hk;rw[YQ hr];simp only[atB,aC,kD];by_cases ha:i=a
 ·subst ha;rw[if_pos rfl,if_pos (by rw[h.1];exact hi)];simp only[Option.getD_some,kD];by_cases hb:k=b
  ·subst hb;rw[if_pos rfl,if_pos (by omega)];simp
  ·rw[if_neg hb,if_neg (fun e=>hb e.2.symm)];simp[hr]
 ·rw[if_neg ha,if_neg (fun e=>ha e.1.symm)]
def ax5 (n a b:Nat):atB (noLinks n) a b=false:=by
 simp only[atB,noLinks,aC,fF];split
 ·simp[fF];split<;>rfl
 ·simp
def NI (c:Con)(a b:Nat):Prop:=c.same=true/\((c.a=a/\c.b=b)\/(c.a=b/\c.b=a))
def lH :∀(cs:List Con),(∀c∈cs,0<=c.a/\c.a<c.b/\c.b<n)->sqB n (nG n cs)/\∀a b,atB (nG n cs) a b=true↔∃c∈cs,NI c a b:=by
 have key:∀(cs:List Con) (M:List (List Bool)),(∀c∈cs,0<=c.a/\c.a<c.b/\c.b<n)->sqB n M->sqB n (cs.foldl mustStep M)/\∀a b,atB (cs.foldl mustStep M) a b=true↔atB M a b=true\/∃c∈cs,NI c a b:=by
  intro cs
  induction cs with
  |nil=>intro M _ h;exact⟨h,fun a b=>by simp⟩
  |cons c cs ih=>
   intro M hc h;have h1:=hc c (by simp)
   have hsq:sqB n (mustStep M c):=by
    unfold mustStep;split
    ·exact sqB_set (sqB_set h)
    ·exact h
   obtain⟨g1,g2⟩:=ih (mustStep M c) (fun c hcs=>hc c (aV _ hcs)) hsq;refine⟨g1,fun a b=> ?_⟩;rw[k_List_foldl_cons,g2]
   have hst:atB (mustStep M c) a b=true↔atB M a b=true\/NI c a b:=by
    unfold mustStep NI;split
    ·rename_i hs;rw[adJ (sqB_set h) (by omega) (by omega),adJ h (by omega) (by omega)];simp only[hs,true_and];by_cases e1:a=c.b.toNat/\b=c.a.toNat
     ·rw[if_pos e1];simp;right;right;omega
     ·rw[if_neg e1];by_cases e2:a=c.a.toNat/\b=c.b.toNat
      ·rw[if_pos e2];simp;right;left;omega
      ·rw[if_neg e2];constructor
       ·exact .inl
       ·rintro(h|h|h)
        ·exact h
        ·exact absurd ⟨by omega,by omega⟩ e2
        ·exact absurd ⟨by omega,by omega⟩ e1
    ·rename_i hs;simp[hs]
   rw[hst];simp only[aW,exists_eq_or_imp,or_assoc]
 intro cs hc;obtain⟨h1,h2⟩:=key cs (noLinks n) hc (agB n);refine⟨h1,fun a b=>(h2 a b).trans ?_⟩;simp[ax5]
def U0 {c:Con}{a b:Nat}(h:NI c a b):NI c b a:=⟨h.1,by rcases h.2 with h|h;(exact .inr h);exact .inl h⟩
def awE {cs:List Con}(hc:∀c∈cs,0<=c.a/\c.a<c.b/\c.b<n):ak6 n (nG n cs):=fun a b _ _ h=>by
 obtain⟨c,h1,h2⟩:=((lH cs hc).2 a b).1 h;exact((lH cs hc).2 b a).2 ⟨c,h1,U0 h2⟩
def uN {cs:List Con}(h:dA n cs=true):∀c∈cs,0<=c.a/\c.a<c.b/\c.b<(n:Int):=(mE h).2.2.2
def nO {cs:List Con}(h:dA n cs=true):EX n (nG n cs) (eH n cs):=acV (awE (uN h))
def iZ {cs:List Con}:eP n cs=true↔dA n cs=true/\∀c∈cs,c.same=false->¬Reach n (nG n cs) c.a.toNat c.b.toNat:=by
 unfold eP wT;rw[k_Bool_and_eq_true,decide_eq_true_eq];constructor
 ·rintro⟨h1,h2⟩;refine⟨h1,fun c hc hs hr=> ?_⟩;rw[if_pos h1]at h2;have hb:=uN h1 c hc;have h3:¬0<=ix (GJ (eH n cs)) cs:=by omega
  rw[jB]at h3;apply h3;rw[dH];refine⟨c,hc,?_⟩;have:=((nO h1).2.2 c.a.toNat c.b.toNat (by omega) (by omega)).2 hr;simp[GJ,hs,this]
 ·rintro⟨h1,h2⟩;refine⟨h1,?_⟩;rw[if_pos h1]
  have h3:¬0<=ix (GJ (eH n cs)) cs:=by
   rw[jB,dH];rintro⟨c,hc,hb⟩;simp only[GJ,k_Bool_and_eq_true,gF,decide_eq_true_eq]at hb;have hb2:=uN h1 c hc;exact h2 c hc hb.1 (((nO h1).2.2 c.a.toNat c.b.toNat (by omega) (by omega)).1 hb.2)
  omega
def SX {cs:List Con}(h:eP n cs=true):nE cs (eH n cs)=true:=by
 obtain⟨h1,h2⟩:=iZ.1 h;have hL:=nO h1;rw[Z4 h1 (by rw[hL.1])];intro c hc hb;have hb2:=uN h1 c hc;have hi:=hL.2.2 c.a.toNat c.b.toNat (by omega) (by omega);cases hs:c.same with
 |true=>
  rw[decide_eq_true_eq,hi];exact .step (.refl _) (by omega) (by omega) (((lH cs (uN h1)).2 _ _).2 ⟨c,hc,hs,.inl ⟨by omega,by omega⟩⟩)
 |false=>
  rw[decide_eq_false_iff_not,hi];exact h2 c hc hs
def aC9 {m:L2}{cs:List Con}(hm:bR m=true)(h:eP m.length cs=true):0<=(yE m cs).cost/\RG (yE m cs).best/\(yE m cs).best.length=m.length:=by
 have hL:=nO (iZ.1 h).1;have h1:=ajH (cs:=cs) hm hL.2.1 hL.1 (SX h);exact⟨h1,(ajG hm).2 h1⟩
def AX {n:Int}{a b:List Con}(h:a.Perm b):dA n a=dA n b:=by
 have h1:a.all (NM n)=b.all (NM n):=h.all_eq;unfold dA;rw[h1,h.length_eq]
def X7 {a b:List Con}(ha:dA n a=true)(hb:dA n b=true)(h:∀c,c∈a↔c∈b):eH n a=eH n b:=by
 have hla:=nO ha;have hlb:=nO hb
 have hm:∀x y,atB (nG n a) x y=true↔atB (nG n b) x y=true:=fun x y=>by
  rw[(lH a (uN ha)).2,(lH b (uN hb)).2];simp only[h]
 refine RG.unique (by rw[hla.1,hlb.1]) hla.2.1 hlb.2.1 fun i k hi hk=> ?_;rw[hla.1]at hi hk;rw[hla.2.2 i k hi hk,hlb.2.2 i k hi hk];exact⟨fun hr=>hr.mono fun x y _ _ e=>(hm x y).1 e,fun hr=>hr.mono fun x y _ _ e=>(hm x y).2 e⟩
def NC {a b:List Con}(h:a.Perm b):eP n a=eP n b:=by
 rw[bQ,iZ,iZ,AX h];refine and_congr_right fun hb=> ?_;have ha:dA n a=true:=by rw[AX h];exact hb
 have hm:∀x y,atB (nG n a) x y=true↔atB (nG n b) x y=true:=fun x y=>by
  rw[(lH a (uN ha)).2,(lH b (uN hb)).2];simp only[h.mem_iff]
 have hr:∀x y,Reach n (nG n a) x y↔Reach n (nG n b) x y:=fun x y=>⟨fun hr=>hr.mono fun x y _ _ e=>(hm x y).1 e,fun hr=>hr.mono fun x y _ _ e=>(hm x y).2 e⟩;simp only[h.mem_iff,hr]
def anA {a b:List Con}(h:a.Perm b)(l:L1):nE a l=nE b l:=h.all_eq
def ap8 {m:L2}{a b:List Con}(h:a.Perm b):mM m a=mM m b:=by
 funext l s;unfold mM;rw[anA h]
def alI {m:L2}{a b:List Con}(h:a.Perm b):yE m a=yE m b:=by
 unfold yE;rw[ap8 h]
def akP {a b:List Con}(h:a.Perm b)(items:L1):(iM a items).Perm (iM b items):=h.filterMap _
end Go.Pl
end
section
namespace Go
def jR:= @List.length_filterMap_le
def bN:= @List.length_filter_le
def dQ:= @List.pairwise_iff_getElem
def yN:= @List.pairwise_map
end Go
end
section
namespace Go.Pl
open Go.Dv
variable {n:Nat}
def amX {n:Nat}(f:Nat->Nat->Bool):let L:=loopN n (noLinks n) fun i M=>loopN n M fun k M=>SL M i k (f i k);sqB n L/\∀a b,a<n->b<n->atB L a b=f a b:=by
 have key:∀i≤n,sqB n (loopN i (noLinks n) fun i M=>loopN n M fun k M=>SL M i k (f i k))/\∀a b,a<n->b<n->atB (loopN i (noLinks n) fun i M=>loopN n M fun k M=>SL M i k (f i k)) a b=if a<i then f a b else false:=by
  intro i hi
  induction i with
  |zero=>exact⟨agB n,fun a b _ _=>by rw[loopN_zero,ax5];simp⟩
  |succ i ih=>
   obtain⟨h1,h2⟩:=ih (by omega);rw[aM];generalize(loopN i (noLinks n) fun i M=>loopN n M fun k M=>SL M i k (f i k))=M at h1 h2|-
   have row:∀k≤n,sqB n (loopN k M fun k M=>SL M i k (f i k))/\∀a b,a<n->b<n->atB (loopN k M fun k M=>SL M i k (f i k)) a b=if a=i/\b<k then f a b else if a<i then f a b else false:=by
    intro k hk
    induction k with
    |zero=>exact⟨h1,fun a b ha hb=>by rw[loopN_zero,h2 a b ha hb,if_neg (c:=a=i/\b<0) (by omega)]⟩
    |succ k ih2=>
     obtain⟨g1,g2⟩:=ih2 (by omega);rw[aM];refine⟨sqB_set g1,fun a b ha hb=> ?_⟩;rw[adJ g1 (by omega) (by omega)];by_cases e:a=i/\b=k
     ·obtain⟨rfl,rfl⟩:=e;rw[if_pos ⟨rfl,rfl⟩,if_pos ⟨rfl,by omega⟩]
     ·rw[if_neg e,g2 a b ha hb];by_cases e2:a=i/\b<k
      ·rw[if_pos e2,if_pos ⟨e2.1,by omega⟩]
      ·rw[if_neg e2,if_neg (c:=a=i/\b<k+1) (by omega)]
   obtain⟨g1,g2⟩:=row n (k_Nat_le_refl n);refine⟨g1,fun a b ha hb=> ?_⟩;rw[g2 a b ha hb];by_cases e:a=i
   ·subst e;rw[if_pos ⟨rfl,hb⟩,if_pos (by omega)]
   ·rw[if_neg (fun e2=>e e2.1)];by_cases e2:a<i
    ·rw[if_pos e2,if_pos (by omega)]
    ·rw[if_neg e2,if_neg (by omega)]
 obtain⟨h1,h2⟩:=key n (k_Nat_le_refl n);exact⟨h1,fun a b ha hb=>by rw[h2 a b ha hb,if_pos ha]⟩
def uW (m:L2):∀a b,a<m.length->b<m.length->atB (YI m) a b=decide (at2 m a b>0):=(amX fun i k=>decide (at2 m i k>0)).2
def J5 (p q:L1):∀a b,a<p.length->b<p.length->atB (Q9 p q) a b=(decide (at1 p a=at1 p b)||decide (at1 q a=at1 q b)):=(amX fun i k=>decide (at1 p i=at1 p k)||decide (at1 q i=at1 q k)).2
variable {m:L2}
def MX (hm:bR m=true):EX m.length (YI m) (oW m):=acV fun a b ha hb h=>by
 rw[uW m a b ha hb]at h;rw[uW m b a hb ha,VP hm b a];exact h
def aaU (p q:L1):EX p.length (Q9 p q) (EK p q):=acV fun a b ha hb h=>by
 rw[J5 p q a b ha hb]at h;rw[J5 p q b a hb ha];simp only[bM,decide_eq_true_eq]at h|-
 rcases h with h|h
 ·exact .inl h.symm
 ·exact .inr h.symm
def aDD (hm:bR m=true):(acQ m.length m).1=oW m:=
 ayP (fun a b ha hb=>by rw[uW m a b ha hb];simp) fun a b ha hb h=>by
  rw[uW m a b ha hb]at h;rw[uW m b a hb ha,VP hm b a];exact h
variable {M:List (List Bool)}{l:L1}
def afC {M':List (List Bool)}{l':L1}(h:EX n M l)(h':EX n M' l')(hm:∀a b,a<n->b<n->a≠b->(atB M a b=true↔atB M' a b=true)):l=l':=by
 have hr:∀{M M':List (List Bool)},(∀a b,a<n->b<n->a≠b->(atB M a b=true->atB M' a b=true))->∀i k,Reach n M i k->Reach n M' i k:=by
  intro M M' hm i k hr
  induction hr with
  |refl=>exact .refl _
  | @step a b _ ha hb h ih=>
   by_cases hab:a=b
   ·subst hab;exact ih
   ·exact .step ih ha hb (hm a b ha hb hab h)
 refine RG.unique (by rw[h.1,h'.1]) h.2.1 h'.2.1 fun i k hi hk=> ?_;rw[h.1]at hi hk;rw[h.2.2 i k hi hk,h'.2.2 i k hi hk];exact⟨hr (fun a b ha hb hab=>(hm a b ha hb hab).1) i k,hr (fun a b ha hb hab=>(hm a b ha hb hab).2) i k⟩
def LC (h:EX n M l)(h1:1<=n)(h8:n<=8):gD l=true:=isPart_iff.2 ⟨h.2.1,by rw[h.1];omega⟩
variable {cs:List Con}{X:L2}
def ayQ (hc:dA n cs=true)(hX:bR X=true)(hl:X.length=n)(h:∀a b,a<n->b<n->(0<at2 X a b↔∃c∈cs,NI c a b)):oW X=eH n cs:=by
 have h1:=MX hX;rw[hl]at h1;refine afC h1 (nO hc) fun a b ha hb _=> ?_;rw[uW X a b (by omega) (by omega),decide_eq_true_eq,(lH cs (uN hc)).2];exact h a b ha hb
def ayO {p q:L1}(hX:bR X=true)(hl:X.length=p.length)(h:∀a b,a<p.length->b<p.length->a≠b->(0<at2 X a b↔at1 p a=at1 p b\/at1 q a=at1 q b)):oW X=EK p q:=by
 have h1:=MX hX;rw[hl]at h1;refine afC h1 (aaU p q) fun a b ha hb hab=> ?_;rw[uW X a b (by omega) (by omega),decide_eq_true_eq,J5 p q a b ha hb,bM,decide_eq_true_eq,decide_eq_true_eq];exact h a b ha hb hab
def JQ (hm:bR m=true)(hc:dA m.length cs=true):dJ m cs=EK (oW m) (eH m.length cs)/\gD (dJ m cs)=true/\(dJ m cs).length=m.length:=by
 have hml:=dN hm;have h1:=MX hm;have h2:=nO hc
 have hp:mJ (oW m) (eH m.length cs)=true:=by
  simp only[mJ,k_Bool_and_eq_true,decide_eq_true_eq];exact⟨⟨LC h1 hml.1 hml.2,LC h2 hml.1 hml.2⟩,by rw[h1.1,h2.1]⟩
 have e:dJ m cs=EK (oW m) (eH m.length cs):=by
  rw[dJ,if_pos ⟨hm,hc⟩,am8,if_pos hp]
 have h3:=aaU (oW m) (eH m.length cs);rw[h1.1]at h3;rw[e];exact⟨rfl,LC h3 hml.1 hml.2,h3.1⟩
def QX (hr:RG l){v:Nat}(hv:v<(blocksP l).length):OC l.length (gat (blocksP l) v)/\1<=(gat (blocksP l) v).length/\(gat (blocksP l) v).length<=l.length:=by
 have hI:=blocksI hr (k_Nat_le_refl l.length);have hrow:=hI.row v hv;have e:gat (blocksP l) v=((List.range l.length).filter fun j=>decide (at1 l j=v)).map fun j:Nat=>(j:Int):=hrow;rw[e];refine⟨⟨fun x hx=> ?_,?_⟩,?_,?_⟩
 ·obtain⟨j,hj,rfl⟩:=dG.1 hx;have:=bB.1 (dW.1 hj).1;omega
 ·rw[yN];refine oQ _ (List.pairwise_lt_range.imp fun h=>by omega)
 ·obtain⟨j,hj,e2⟩:=hI.ex v (by omega) (by have:(blocksP l).length=(loopN l.length [] (oM l)).length:=rfl;omega);have hm:((j:Nat):Int)∈((List.range l.length).filter fun j=>decide (at1 l j=v)).map fun j:Nat=>(j:Int):=dG.2 ⟨j,dW.2 ⟨bB.2 hj,by simpa using e2⟩,rfl⟩;exact List.length_pos_of_mem hm
 ·rw[aK];have:=bN (fun j=>decide (at1 l j=(v:Int))) (List.range l.length);simpa using this
variable {items:L1}
def ajF {i k:Nat}(hi:i<items.length)(hk:k<items.length):at2 (kN m items) i k=at2 m (at1 items i).toNat (at1 items k).toNat:=by
 have h1:=aY hi;have h2:=aY hk;refine OH (r:=items.map fun y=>at2 m (at1 items i).toNat y.toNat) ?_ ?_
 ·simp[kN,h1]
 ·simp[h2]
def axD (hm:bR m=true)(hl:1<=items.length/\items.length<=8)(hs:items.Pairwise (·<·)):bR (kN m items)=true:=by
 have hlen:(kN m items).length=items.length:=by simp[kN]
 simp only[bR,k_Bool_and_eq_true,aI,bB,decide_eq_true_eq];refine⟨⟨fun r hr=> ?_,fun i hi k hk=> ?_⟩,by rw[hlen];omega⟩
 ·obtain⟨x,_,rfl⟩:=dG.1 hr;simp[hlen]
 ·rw[hlen]at hi hk;simp only[IE,k_Bool_and_eq_true,decide_eq_true_eq,bM];rw[ajF hi hk,ajF hk hi];have h1:=iP hm (at1 items i).toNat (at1 items k).toNat;refine⟨⟨h1,VP hm _ _⟩,?_⟩;by_cases e:i=k
  ·subst e;right;by_cases hx:(at1 items i).toNat<m.length
   ·simp only[bR,k_Bool_and_eq_true,aI,bB]at hm;have:=hm.1.2 _ hx _ hx;simp only[IE,k_Bool_and_eq_true,decide_eq_true_eq,bM]at this;rcases this.2 with h|h
    ·exact absurd rfl h
    ·exact h
   ·simp[at2,aC,k_List_getElem__eq_none (show m.length<=(at1 items i).toNat by omega)]
  ·exact .inl e
def DU {x:Int}(h:0<=place items x):(place items x).toNat<items.length/\at1 items (place items x).toNat=x:=by
 unfold place ix at h|-
 cases hf:items.findIdx? (fun y=>decide (y=x))with
 |none=>rw[hf]at h;simp at h
 |some i=>
  simp only;obtain⟨hi,he,_⟩:=fD.1 hf;have h1:=aY hi;rw[aB hi]at h1;have:=k_Option_some_inj h1;exact⟨by omega,by rw[show((i:Int)).toNat=i by omega,←this];simpa using he⟩
def aB5 (hc:dA n cs=true)(hs:OC n items)(hl:1<=items.length/\items.length<=8):dA items.length (iM cs items)=true:=by
 have h1:=mE hc;simp only[dA,k_Bool_and_eq_true,aI,decide_eq_true_eq];refine⟨⟨fun c hcs=> ?_,by omega⟩,?_⟩
 ·obtain⟨c0,h2,h3⟩:=jS.1 hcs;unfold zX at h3;split at h3
  ·rename_i hp;obtain rfl:=k_Option_some_inj h3;obtain⟨a1,a2⟩:=DU hp.1;obtain⟨b1,b2⟩:=DU hp.2;have h4:=h1.2.2.2 c0 h2;simp only[NM,k_Bool_and_eq_true,decide_eq_true_eq];refine⟨⟨by omega,by omega⟩,?_⟩;rcases oJ (place items c0.a).toNat (place items c0.b).toNat with h|h|h
   ·omega
   ·rw[h]at a2;omega
   ·have:=dQ.1 hs.2 _ _ b1 a1 h;have e1:=aY a1;have e2:=aY b1;rw[aB a1]at e1;rw[aB b1]at e2;rw[k_Option_some_inj e1,k_Option_some_inj e2]at this;omega
  ·cases h3
 ·have:=jR (zX items) cs;unfold iM;omega
def af1 (hc:eP n cs=true)(hs:OC n items)(hl:1<=items.length/\items.length<=8):eP items.length (iM cs items)=true:=by
 obtain⟨h1,h2⟩:=iZ.1 hc;have h3:=aB5 h1 hs hl
 have hat:∀i<items.length,(at1 items i).toNat<n:=fun i hi=>by
  have:=hs.1 _ (aA (aY hi));omega
 refine iZ.2 ⟨h3,fun c hcs hsame hr=> ?_⟩
 have key:∀i k,i<items.length->Reach items.length (nG items.length (iM cs items)) i k->Reach n (nG n cs) (at1 items i).toNat (at1 items k).toNat:=by
  intro i k hi hr
  induction hr with
  |refl=>exact .refl _
  | @step a b _ ha hb h ih=>
   refine .step ih (hat a ha) (hat b hb) ?_;rw[(lH _ (uN h3)).2]at h;obtain⟨c,hc1,hc2,hc3⟩:=h;obtain⟨c0,g1,g2⟩:=jS.1 hc1;unfold zX at g2;split at g2
   ·rename_i hp;obtain rfl:=k_Option_some_inj g2;simp only at hc2 hc3;obtain⟨a1,a2⟩:=DU hp.1;obtain⟨b1,b2⟩:=DU hp.2;have hc0:=uN h1 c0 g1;rw[(lH _ (uN h1)).2];refine⟨c0,g1,hc2,?_⟩;rcases hc3 with⟨e1,e2⟩|⟨e1,e2⟩
    ·left;have ea:(place items c0.a).toNat=a:=by omega
     have eb:(place items c0.b).toNat=b:=by omega
     rw[ea]at a2;rw[eb]at b2;omega
    ·right;have ea:(place items c0.a).toNat=b:=by omega
     have eb:(place items c0.b).toNat=a:=by omega
     rw[ea]at a2;rw[eb]at b2;omega
   ·cases g2
 obtain⟨c0,g1,g2⟩:=jS.1 hcs;unfold zX at g2;split at g2
 ·rename_i hp;obtain rfl:=k_Option_some_inj g2;simp only at hsame hr;obtain⟨a1,a2⟩:=DU hp.1;obtain⟨b1,b2⟩:=DU hp.2;have:=key _ _ a1 hr;rw[a2,b2]at this;exact h2 c0 g1 hsame this
 ·cases g2
end Go.Pl
end
section
namespace Go
def mH:= @List.nodup_append
def bV:= @List.take_length
def sU:= @List.take_sublist
end Go
end
section
namespace Go.Pl
open Go.Dv
def IA (n:Int)(l:L1):Bool:=l.all (fun x=>inR x 0 (n-1))&&decide l.Nodup&&inR n 1 8&&decide ((l.length:Int)=n)
def awT (n:Int)(l:L1)(i s:Nat):Prop:=(0<i->n<=8)/\s<256/\(∀x∈l.take i,0<=x/\x<n)/\(l.take i).Nodup/\∀x<8,s.testBit x=decide ((x:Int)∈l.take i)
def awV (n:Int)(l:L1):awT n l 0 0:=⟨by omega,by omega,by simp,by simp,fun x _=>by simp⟩
variable {l:L1}{i:Nat}
def YW (h:i<l.length):l.take (i+1)=l.take i++[at1 l i]:=dM (aY h)
def afM {x:Int}:(l++[x]).Nodup↔l.Nodup/\x∉l:=by
 rw[mH];constructor
 ·rintro⟨h1,_,h2⟩;exact⟨h1,fun h=>h2 x h x (by simp) rfl⟩
 ·rintro⟨h1,h2⟩;refine⟨h1,by simp,fun a ha b hb=> ?_⟩;rw[k_List_mem_singleton.1 hb];rintro rfl;exact h2 ha
def afS {n:Int}{s:Nat}(h:awT n l i s)(hi:i<l.length)(hb:(at1 l i<0\/n<=at1 l i)\/8<n\/s.testBit (at1 l i).toNat=true):IA n l=false:=by
 rw[jZ];intro ho;simp only[IA,k_Bool_and_eq_true,aI,decide_eq_true_eq]at ho;obtain⟨⟨⟨h1,h2⟩,h3⟩,h4⟩:=ho;have hx:=h1 _ (aA (aY hi));rcases hb with hb|hb|hb
 ·omega
 ·omega
 ·obtain⟨_,_,_,_,g⟩:=h;rw[g (at1 l i).toNat (by omega),decide_eq_true_eq,show(((at1 l i).toNat:Nat):Int)=at1 l i by omega]at hb;have h5:(l.take (i+1)).Nodup:=List.Nodup.sublist (sU _ _) h2;rw[YW hi]at h5;exact(afM.1 h5).2 hb
def awU {n:Int}{s:Nat}(h:awT n l i s)(hi:i<l.length)(hx:0<=at1 l i/\at1 l i<n)(hn:n<=8)(hs:s.testBit (at1 l i).toNat=false):awT n l (i+1) (s|||2^(at1 l i).toNat):=by
 obtain⟨g1,g2,g3,g4,g5⟩:=h;have hpow:2^(at1 l i).toNat<2^8:=Nat.pow_lt_pow_right (by omega) (by omega);refine⟨fun _=>hn,Nat.or_lt_two_pow (n:=8) g2 hpow,fun x hxm=> ?_,?_,fun x hx8=> ?_⟩
 ·rw[YW hi]at hxm;rcases k_List_mem_append.1 hxm with h|h
  ·exact g3 x h
  ·rw[k_List_mem_singleton.1 h];exact hx
 ·rw[YW hi,afM];refine⟨g4,fun hm=> ?_⟩;rw[g5 _ (by omega),decide_eq_false_iff_not]at hs;apply hs;rw[show(((at1 l i).toNat:Nat):Int)=at1 l i by omega];exact hm
 ·rw[Nat.testBit_or,Nat.testBit_two_pow,g5 x hx8,YW hi,bQ,bM,decide_eq_true_eq,decide_eq_true_eq,decide_eq_true_eq,k_List_mem_append,k_List_mem_singleton];refine or_congr_right ⟨fun h=>by omega,fun h=>by omega⟩
def aBW {n:Int}{s:Nat}(h:awT n l l.length s):IA n l=(inR n 1 8&&decide ((l.length:Int)=n)):=by
 obtain⟨g1,g2,g3,g4,g5⟩:=h;rw[bV]at g3 g4
 have h1:l.all (fun x=>inR x 0 (n-1))=true:=by
  rw[aI];intro x hx;have:=g3 x hx;simp;omega
 have h2:decide l.Nodup=true:=by simpa using g4
 rw[IA,h1,h2,eZ,eZ]
def zP (m:L2)(p x:Int)(k:Nat)(l:L1):L1:=if at1 l k<0/\((k:Int)=p\/at2 m p.toNat k>0)then l.set k x else l
def pivOne (m:L2)(order:L1)(i:Nat)(l:L1):L1:=if 0<=at1 l (at1 order i).toNat then l else loopN m.length l (zP m (at1 order i) i)
def ac2 (m:L2)(order:L1):L1:=loopN order.length (List.replicate m.length (-1)) (pivOne m order)
def kS (m:L2)(order:L1):L1:=canon (ac2 m order)
def rot (n s:Nat):L1:=(List.range n).map fun i=>(((s+i) % n:Nat):Int)
def yG (m:L2)(s:Nat)(b:L1×Int):L1×Int:=if b.2<0\/dP m (kS m (rot m.length s))<b.2 then(kS m (rot m.length s),dP m (kS m (rot m.length s)))else b
def lJ (m:L2):L1×Int:=loopN m.length ([], -1) (yG m)
def aaH:∀(l:L1) (s:L1×L1),(l.foldl jL s).1.length=s.1.length+l.length
 |[],s=>by simp
 |x::l,s=>by
  have h:(jL s x).1.length=s.1.length+1:=by unfold jL;split<;>simp
  rw[k_List_foldl_cons,aaH l,h,aS];omega
def pG (l:L1):(canon l).length=l.length:=by simp[canon,aaH]
def aoU (m:L2)(p x:Int)(k:Nat)(l:L1):(zP m p x k l).length=l.length:=by unfold zP;split<;>simp
variable {n:Nat}
def AL {f:Nat->L1->L1}(h:∀k l,(f k l).length=l.length):(loopN n l f).length=l.length:=loopN_inv (fun _ (x:L1)=>x.length=l.length) rfl fun i x _ hx=>by rw[h,hx]
def arX (m:L2)(o:L1)(i:Nat)(l:L1):(pivOne m o i l).length=l.length:=by
 unfold pivOne;split
 ·rfl
 ·exact AL (aoU m _ _)
def U8 (m:L2)(o:L1):(kS m o).length=m.length:=by
 unfold kS ac2;rw[pG,AL (arX m o)];simp
def XY (h:IA n l=true):l.length=n/\1<=n/\n<=8/\l.Nodup/\∀i<l.length,0<=at1 l i/\at1 l i<n:=by
 simp only[IA,k_Bool_and_eq_true,aI,decide_eq_true_eq]at h;obtain⟨⟨⟨h1,h2⟩,h3⟩,h4⟩:=h;refine⟨by omega,by omega,by omega,h2,fun i hi=> ?_⟩;have:=h1 _ (aA (aY hi));omega
def atY {s:Nat}(hn:1<=n/\n<=8)(hs:s<n):IA n (rot n s)=true:=by
 have hb:∀n'≤8,∀s'<n',IA (n':Nat) (rot n' s')=true:=by decide
 exact hb n hn.2 s hs
def CP (l:L1):Int:=loopN l.length (-1) fun i t=>max t (at1 l i)
def yU (l:L1)(x y:Int):Bool:=gD l&&inR x 0 ((l.length:Int)-1)&&inR y 0 (CP l+1)
def rW (l:L1)(x y:Int):L1:=if yU l x y=true then canon (l.set x.toNat y)else l
def wL (m:L2)(l:L1):Int:=if bR m=true/\gD l=true/\l.length=m.length then dP m l else -1
def LA (m:L2)(l:L1)(x y:Int):Int:=if yU l x y=true/\0<=wL m l then wL m l-wL m (rW l x y)else 0
def keepP (cs:List Con)(l:L1):Bool:=cs.all (yB l)&&gD l
def yF (m:L2)(cs:List Con)(l:L1)(i k:Nat)(b:Mov):Mov:=if yU l i k=true/\LA m l i k>b.gain/\keepP cs (rW l i k)=true then⟨i,k,LA m l i k⟩else b
def adM (m:L2)(cs:List Con)(l:L1)(i:Nat)(b:Mov):Mov:=loopN (l.length+1) b (yF m cs l i)
def alV (m:L2)(cs:List Con)(l:L1):Bool:=decide (0<=wL m l)&&keepP cs l
def mR (m:L2)(cs:List Con)(l:L1):Mov:=if alV m cs l=true then loopN l.length ⟨0,0,0⟩ (adM m cs l)else⟨0,0,0⟩
def rP (m:L2)(cs:List Con):Nat->L1->L1
 |0,l=>l
 |f+1,l=>if 0<(mR m cs l).gain then rP m cs f (rW l (mR m cs l).item (mR m cs l).block)else l
def RH (l:L1)(x y:Int):(rW l x y).length=l.length:=by unfold rW;split;(rw[pG];simp);rfl
def apQ (h:gD l=true): -1<=CP l/\CP l<=8:=by
 have h1:=isPart_iff.1 h;have key:∀j≤l.length, -1<=loopN j (-1) (fun i t=>max t (at1 l i)):=fun j _=>loopN_inv (fun _ (t:Int)=> -1<=t) (by omega) fun i t _ ht=>by omega
 refine⟨key _ (k_Nat_le_refl _),?_⟩
 have h2:∀i<l.length,at1 l i<=i:=by
  intro i hi
  induction i using Nat.strongRecOn with
  |_ i ih=>
   rcases xA (i:Int) (at1 l i)with hlt|hle
   ·-- more smaller labels than places
    exfalso;obtain⟨j,hj,e⟩:=(h1.1 i hi).2 i (by omega) hlt;have:=ih j hj (by omega);omega
   ·exact hle
 refine loopN_inv (n:=l.length) (fun _ (t:Int)=>t<=8) (by omega) fun i t hi ht=> ?_;have:=h2 i hi;omega
def BP (m:L2)(l:L1): -1<=wL m l/\wL m l<=1000000:=by
 unfold wL;split
 ·rename_i h;have h0:=kQ h.1 l;have h8:=isPart_len h.2.1;refine⟨by omega,?_⟩
  have row:∀(i:Nat) (s:Int),i<l.length->zK m l i s<=s+1000*i:=fun i s _=>by
   have:=loopN_inv (n:=i) (s:=s) (f:=fun k s=>s+tC m l i k) (fun k (t:Int)=>t<=s+1000*k) (by omega) (fun k t _ ht=>by
    have:=iP h.1 i k;simp only[tC];split
    ·omega
    ·split<;>omega)
   exact this
  have key:=loopN_inv (n:=l.length) (s:=0) (f:=zK m l) (fun i (s:Int)=>s<=8000*i) (by omega) (fun i s hi hs=>by have:=row i s hi;omega);unfold dP;omega
 ·omega
def amV (m:L2)(l:L1)(x y:Int): -2000000<=LA m l x y/\LA m l x y<=2000000:=by
 have h1:=BP m l;have h2:=BP m (rW l x y);unfold LA;split<;>omega
def anO (x:Int)(s:L1)(n:Nat):(uT x s n<0->∀j<n,at1 s j≠x)/\(0<=uT x s n->uT x s n<n/\at1 s (uT x s n).toNat=x):=by
 induction n with
 |zero=>exact⟨fun _ j hj=>by omega,fun h=>by simp[uT,loopN_zero]at h⟩
 |succ n ih=>
  have e:uT x s (n+1)=if at1 s n=x then(n:Int)else uT x s n:=by rw[uT,aM];rfl
  rw[e];split
  ·rename_i h;exact⟨fun h2=>by omega,fun _=>⟨by omega,by simpa using h⟩⟩
  ·rename_i h;refine⟨fun h2 j hj=> ?_,fun h2=> ?_⟩
   ·by_cases hjn:j=n
    ·subst hjn;exact h
    ·exact ih.1 h2 j (by omega)
   ·have:=ih.2 h2;exact⟨by omega,this.2⟩
structure aC5 (l:L1) (i:Nat) (s:L1×L1):Prop where
 len:s.1.length=i
 at_:∀j<i,0<=at1 s.1 j/\at1 s.1 j<s.2.length/\at1 s.2 (at1 s.1 j).toNat=at1 l j
 nd:∀a b:Nat,a<s.2.length->b<s.2.length->at1 s.2 a=at1 s.2 b->a=b
 ex:∀v:Int,0<=v->v<s.2.length->∃j<i,at1 s.1 j=v
 rg:RG s.1
def aC5.step {l:L1}{i:Nat}{s:L1×L1}(h:aC5 l i s)(hi:i<l.length):aC5 l (i+1) (jL s (at1 l i)):=by
 have hL:=anO (at1 l i) s.2 s.2.length;unfold jL;have hsn:∀(x:Int) (j:Nat),j<i->at1 (s.1++[x]) j=at1 s.1 j:=fun x j hj=>by rw[lI,if_pos (by rw[h.len];exact hj)]
 have hsi:∀x:Int,at1 (s.1++[x]) i=x:=fun x=>by rw[lI,if_neg (by rw[h.len];omega),if_pos h.len.symm]
 split
 ·rename_i hneg;have hno:=hL.1 hneg;have hq:∀j<s.2.length,at1 (s.2++[at1 l i]) j=at1 s.2 j:=fun j hj=>by rw[lI,if_pos hj]
  have hqn:at1 (s.2++[at1 l i]) s.2.length=at1 l i:=by rw[lI,if_neg (by omega),if_pos rfl]
  refine⟨by simp[h.len],fun j hj=> ?_,fun a b ha hb e=> ?_,fun v h1 h2=> ?_,?_⟩
  ·simp only[aP,eD];by_cases hji:j=i
   ·subst hji;rw[hsi];exact⟨by omega,by omega,by simpa using hqn⟩
   ·obtain⟨g1,g2,g3⟩:=h.at_ j (by omega);rw[hsn _ j (by omega)];exact⟨g1,by omega,by rw[hq _ (by omega)];exact g3⟩
  ·simp only[aP,eD]at ha hb;by_cases ha2:a=s.2.length
   ·by_cases hb2:b=s.2.length
    ·omega
    ·rw[ha2,hqn,hq b (by omega)]at e;exact absurd e.symm (hno b (by omega))
   ·by_cases hb2:b=s.2.length
    ·rw[hb2,hqn,hq a (by omega)]at e;exact absurd e (hno a (by omega))
    ·rw[hq a (by omega),hq b (by omega)]at e;exact h.nd a b (by omega) (by omega) e
  ·simp only[aP,eD]at h2;by_cases hv:v=s.2.length
   ·exact⟨i,by omega,by rw[hsi,hv]⟩
   ·obtain⟨j,hj,e⟩:=h.ex v h1 (by omega);exact⟨j,by omega,by rw[hsn _ j hj,e]⟩
  ·have:=VM (nx:=s.2.length) h.rg (fun v h1 h2=>by obtain⟨j,hj,e⟩:=h.ex v h1 h2;exact⟨j,by rw[h.len];exact hj,e⟩) (k_Nat_le_refl _);exact this
 ·rename_i hneg;obtain⟨hlt,hat⟩:=hL.2 (by omega);refine⟨by simp[h.len],fun j hj=> ?_,h.nd,fun v h1 h2=> ?_,?_⟩
  ·by_cases hji:j=i
   ·subst hji;rw[hsi];exact⟨by omega,hlt,hat⟩
   ·rw[hsn _ j (by omega)];exact h.at_ j (by omega)
  ·obtain⟨j,hj,e⟩:=h.ex v h1 h2;exact⟨j,by omega,by rw[hsn _ j hj,e]⟩
  ·have hn:uT (at1 l i) s.2 s.2.length=((uT (at1 l i) s.2 s.2.length).toNat:Int):=by omega
   rw[hn];exact VM (nx:=s.2.length) h.rg (fun v h1 h2=>by obtain⟨j,hj,e⟩:=h.ex v h1 h2;exact⟨j,by rw[h.len];exact hj,e⟩)
def aIL (l:L1):∀i≤l.length,aC5 l i ((l.take i).foldl jL ([],[])):=by
 intro i hi
 induction i with
 |zero=>exact⟨rfl,fun j hj=>by omega,fun a b ha=>by simp at ha,fun v h1 h2=>by simp at h2;omega,apX⟩
 |succ i ih=>rw[fH jL ([],[]) (aY)];exact(ih (by omega)).step (by omega)
def KL (l:L1):RG (canon l):=by
 have:=(aIL l l.length (k_Nat_le_refl _)).rg
 rwa [bV]at this
def ahF (l:L1)(i k:Nat)(hi:i<l.length:=by omega)(hk:k<l.length:=by omega):at1 (canon l) i=at1 (canon l) k↔at1 l i=at1 l k:=by
 have h:=aIL l l.length (k_Nat_le_refl _);rw[bV]at h;have h1:=h.at_ i hi;have h2:=h.at_ k hk;show at1 (l.foldl jL ([],[])).1 i=at1 (l.foldl jL ([],[])).1 k↔_;constructor
 ·intro e;rw[←h1.2.2,←h2.2.2,e]
 ·intro e;rw[←h1.2.2,←h2.2.2]at e;have:=h.nd _ _ (by omega) (by omega) e;omega
def alW {a b:L1}(hl:a.length=b.length)(h:∀i k,i<a.length->k<a.length->(at1 a i=at1 a k↔at1 b i=at1 b k)):canon a=canon b:=by
 have h1:=pG a;have h2:=pG b;refine RG.unique (by omega) (KL a) (KL b) fun i k hi hk=> ?_;rw[ahF a i k,ahF b i k];exact h i k (by omega) (by omega)
def axU (h:RG l):∀i<l.length,at1 l i<=i:=by
 intro i hi
 induction i using Nat.strongRecOn with
 |_ i ih=>
  rcases xA (i:Int) (at1 l i)with hlt|hle
  ·exfalso;obtain⟨j,hj,e⟩:=(h i hi).2 i (by omega) hlt;have:=ih j hj (by omega);omega
  ·exact hle
def lX (s:L2)(r:List Con):L1:=if keepP r (lJ s).1=true then(lJ s).1 else eH s.length r
def partOf (m:L2)(cs:List Con)(items:L1):L1:=
 if 6<items.length then rP (kN m items) (iM cs items) 100 (lX (kN m items) (iM cs items))else(abA (kN m items) (iM cs items)).best
def acG (items l:L1)(i:Int)(k:Nat)(L:L1):L1:=L.set (at1 items k).toNat (i*8+at1 l k)
def FZ (m:L2)(cs:List Con)(bs:L2)(i:Nat)(L:L1):L1:=loopN (gat bs i).length L (acG (gat bs i) (partOf m cs (gat bs i)) i)
def ahG (m:L2)(cs:List Con)(bs:L2):L1:=loopN bs.length (List.replicate m.length 0) (FZ m cs bs)
def nR (m:L2)(cs:List Con):L1:=canon (ahG m cs (blocksP (dJ m cs)))
def nK (m:L2)(cs:List Con):L1:=if eP m.length cs=true then nR m cs else[]
def ah3 (m:L2)(cs:List Con):∀(f:Nat) (l:L1),(rP m cs f l).length=l.length
 |0,l=>rfl
 |f+1,l=>by
  rw[rP];split
  ·rw[ah3 m cs f,RH]
  ·rfl
def aA6 (h:RG l)(x y:Int):RG (rW l x y):=by
 unfold rW;split
 ·exact KL _
 ·exact h
def am3 (m:L2)(cs:List Con):∀(f:Nat) (l:L1),RG l->RG (rP m cs f l)
 |0,l,h=>h
 |f+1,l,h=>by
  rw[rP];split
  ·exact am3 m cs f _ (aA6 h _ _)
  ·exact h
variable {m:L2}
def TQ (hm:bR m=true):(lJ m).1.length=m.length/\RG (lJ m).1/\0<=(lJ m).2:=by
 have hml:=dN hm
 have key:∀j≤m.length,1<=j->(loopN j ([], -1) (yG m)).1.length=m.length/\RG (loopN j ([], -1) (yG m)).1/\0<=(loopN j ([], -1) (yG m)).2:=by
  intro j hj h1
  induction j with
  |zero=>omega
  |succ j ih=>
   rw[aM];have hp:=kQ hm (kS m (rot m.length j));have hl:=U8 m (rot m.length j);unfold yG;split
   ·exact⟨hl,KL _,hp⟩
   ·rename_i h;by_cases hj0:j=0
    ·subst hj0;simp[loopN_zero]at h
    ·exact ih (by omega) (by omega)
 exact key m.length (k_Nat_le_refl _) hml.1
variable {r:List Con}
def am9 (h:gD l=true):keepP r l=nE r l:=by simp[keepP,nE,h]
variable {s:L2}
def VG (hs:bR s=true)(hr:dA s.length r=true):(lX s r).length=s.length/\RG (lX s r):=by
 have h1:=TQ hs;have h2:=nO hr;unfold lX;split
 ·exact⟨h1.1,h1.2.1⟩
 ·exact⟨h2.1,h2.2.1⟩
structure Part (m:L2) (cs:List Con) (items:L1):Prop where
 mat:bR (kN m items)=true
 len:(kN m items).length=items.length
 con:eP items.length (iM cs items)=true
 are:dA items.length (iM cs items)=true
variable {cs:List Con}{items:L1}
def akM (hm:bR m=true)(hc:eP m.length cs=true)(hs:OC m.length items)(h1:1<=items.length)(h8:items.length<=m.length):Part m cs items:=by
 have hml:=dN hm;have h3:=af1 hc hs ⟨h1,by omega⟩;exact⟨axD hm ⟨h1,by omega⟩ hs.2,by simp[kN],h3,(iZ.1 h3).1⟩
def aiO (h:Part m cs items):(partOf m cs items).length=items.length/\RG (partOf m cs items):=by
 unfold partOf;split
 ·have h2:=VG h.mat (r:=iM cs items) (by rw[h.len];exact h.are);refine⟨by rw[ah3,h2.1,h.len],am3 _ _ _ _ h2.2⟩
 ·rw[YO h.mat (by rw[h.len];exact h.are)];have:=aC9 h.mat (cs:=iM cs items) (by rw[h.len];exact h.con);exact⟨by rw[this.2.2,h.len],this.2.1⟩
def QE (m:L2)(cs:List Con)(bs:L2)(i:Nat)(L:L1):(FZ m cs bs i L).length=L.length:=AL fun k l=>by simp[acG]
def Y8 (m:L2)(cs:List Con)(bs:L2):(ahG m cs bs).length=m.length:=by rw[ahG,AL (QE m cs bs)];simp
def al0 {w:L1}(n:Nat)(h:∀i<n,sZ l w i=true):xL l w n<=1000*uM w n:=by
 induction n with
 |zero=>simp[xL,uM,loopN]
 |succ n ih=>
  have h1:=ih fun i hi=>h i (by omega);have h2:=h n (by omega);simp only[sZ,k_Bool_and_eq_true,decide_eq_true_eq]at h2;have h3:at1 l n*at1 w n<=1000*at1 w n:=lM h2.1.2 h2.2.1;have e1:xL l w (n+1)=xL l w n+at1 l n*at1 w n:=aM _ _ _;have e2:uM w (n+1)=uM w n+at1 w n:=aM _ _ _;rw[e1,e2];omega
def ajP (l w:L1):0<=oN l w/\oN l w<=1000:=by
 unfold oN;split
 ·next h=>
  have h1:∀i<l.length,sZ l w i=true:=fun i hi=>aI.1 h.2 i (bB.2 hi);have a:=CU l.length h1;have b:=CS l.length h1;have c:=al0 l.length h1;split
  ·omega
  ·rename_i hne;rw[kP a.1];refine⟨Int.ediv_nonneg a.1 b.1,?_⟩;exact Int.ediv_le_of_le_mul (by omega) c
 ·omega
def afV (s:Sco)(f:L1):0<=mI s f/\mI s f<=1000:=by
 unfold mI;split
 ·exact ajP _ _
 ·omega
def acF (rs:List (List Tst))(s:Sco)(f:L1): -1000<=iY rs s f/\iY rs s f<=1000:=by
 unfold iY;split
 ·next h=>
  have h1:=afV s f;have h2:=h.2.1;simp only[lZ,k_Bool_and_eq_true,inR,decide_eq_true_eq]at h2;have h3:=h2.2;split<;>omega
 ·omega
def TL (l:List Rec)(rs:List (List Tst))(s:Sco)(i k:Nat):mD l rs s i k=mD l rs s k i:=by
 unfold mD;rw[Nat.min_comm,Nat.max_comm];by_cases h:i=k
 ·simp[h]
 ·rw[if_neg h,if_neg (k_Ne_symm h)]
variable {k:Nat}
def VJ (l:List Rec)(rs:List (List Tst))(s:Sco)(hi:i<l.length)(hk:k<l.length):at2 (weights l rs s) i k=mD l rs s i k:=by
 simp[at2,weights,xZ,hi,hk]
def KF {l:List Rec}(rs:List (List Tst))(s:Sco)(h:1<=l.length/\l.length<=8):bR (weights l rs s)=true:=by
 have hl:(weights l rs s).length=l.length:=by simp[weights]
 simp only[bR,k_Bool_and_eq_true,aI,bB,decide_eq_true_eq,hl];refine⟨⟨fun r hr=> ?_,fun i hi k hk=> ?_⟩,by first|omega|(simp;omega)⟩
 ·simp only[weights,dG]at hr;obtain⟨i,_,rfl⟩:=hr;simp[xZ]
 ·simp only[IE,k_Bool_and_eq_true,inR,decide_eq_true_eq,bM];rw[VJ l rs s hi hk,VJ l rs s hk hi];refine⟨⟨?_,TL l rs s i k⟩,?_⟩
  ·unfold mD;split
   ·omega
   ·exact acF _ _ _
  ·by_cases h:i=k
   ·right;simp[mD,h]
   ·left;exact h
def axZ {l:List Ver}(v:Ver)(h:l.length<=8):(zS l v).length<=8:=by
 unfold zS;split
 ·next h2=>
  simp only[GD,k_Bool_and_eq_true,decide_eq_true_eq]at h2;have:=axY l v;simp only[aP,dE,kR,aS,jI];omega
 ·exact h
def aq6 {α:Type}{P:α->Bool}{l:List α}{c:α}(h:P c=false):ix P (l++[c])=ix P l:=by
 unfold ix;rw[List.findIdx?_append];cases l.findIdx? P<;>simp[h]
def ah5 (x:Int){s:L1}(hs:s.Nodup):∀n,n<=s.length->uT x s n=ix (fun y=>decide (x=y)) (s.take n)
 |0,_=>by simp[uT,loopN,ix]
 |n+1,h=>by
  have ih:=ah5 x hs n (by omega);have e:uT x s (n+1)=if at1 s n=x then(n:Int)else uT x s n:=aM _ _ _
  obtain⟨c,hc⟩:=aR (l:=s) (i:=n);have hca:at1 s n=c:=by have:=aY (l:=s) (i:=n);rw[hc]at this;exact(k_Option_some_inj this).symm
  rw[e,hca,dM hc];by_cases hx:c=x
  ·rw[if_pos hx];have hl:(s.take n).length=n:=by rw[dE];omega
   have h1:(s.take n++[c])[n]?=some c:=by rw[aN (by omega),hl];simp
   have hno:((s.take n++[c]).take n).any (fun y=>decide (x=y))=false:=by
    rw[List.take_append_of_le_length (by simp;omega)];rw[iC];intro y hy;simp only[List.take_take,Nat.min_self]at hy;have hnd:(s.take (n+1)).Nodup:=hs.sublist (sU _ _);rw[dM hc,mH]at hnd;have:=hnd.2.2 y hy c (by simp);simp;omega
   exact(CK h1 hno (by simp[hx])).symm
  ·rw[if_neg hx,ih,aq6 (by simp;omega)]
def X4 (m:L2)(i k:Nat):Bool:=inR (at2 m i k) (-1000) 1000&&decide (at2 m k i=at2 m i k)
def FM (m:L2)(i:Nat):Bool:=decide ((gat m i).length=m.length)&&decide (at2 m i i=0)&&(List.range i).all (X4 m i)
def ZV (m:L2):bR m=((List.range m.length).all (FM m)&&inR m.length 1 8):=by
 rw[bQ];simp only[bR,FM,X4,IE,k_Bool_and_eq_true,aI,bB,decide_eq_true_eq,bM];constructor
 ·rintro⟨⟨h1,h2⟩,h3⟩;refine⟨fun i hi=>⟨⟨?_,?_⟩,fun k hk=> ?_⟩,h3⟩
  ·obtain⟨r,hr⟩:=aR hi;rw[BG hr];exact h1 r (aA hr)
  ·have:=(h2 i hi i hi).2;simpa using this
  ·have a:=(h2 i hi k (by omega)).1;exact⟨a.1,a.2.symm⟩
 ·rintro⟨h,h3⟩;refine⟨⟨fun r hr=> ?_,fun i hi k hk=> ?_⟩,h3⟩
  ·obtain⟨i,hi⟩:=dD hr;have:=(h i (dF hi)).1.1
   rwa [BG hi]at this
  ·rcases oJ i k with hlt|rfl|hlt
   ·have a:=(h k hk).2 i hlt;exact⟨⟨by rw[a.2];exact a.1,a.2⟩,.inl (by omega)⟩
   ·have a:=(h i hi).1.2;exact⟨⟨by omega,rfl⟩,.inr a⟩
   ·have a:=(h i hi).2 k hlt;exact⟨⟨a.1,a.2.symm⟩,.inl (by omega)⟩
def an4 (h:k<i)(hp:X4 m i k=false):FM m i=false:=by
 unfold FM;rw[mZ h hp,Bool.and_false]
def av4 (h1:(gat m i).length=m.length)(h2:at2 m i i=0)(h:(List.range i).all (X4 m i)=true):FM m i=true:=by
 unfold FM;rw[h];simp[h1,h2]
def zeros (n:Nat):L2:=List.replicate n (List.replicate n 0)
def set2 (m:L2)(i k:Nat)(v:Int):L2:=m.set i ((gat m i).set k v)
def sq2 (n:Nat)(m:L2):Prop:=m.length=n/\∀r∈m,r.length=n
def pM (n:Nat):sq2 n (zeros n):=⟨by simp[zeros],fun r hr=>by obtain⟨_,rfl⟩:=nM.1 hr;simp⟩
def sW (h:sq2 n m)(hi:i<n:=by omega):m[i]?=some (gat m i)/\(gat m i).length=n:=by
 obtain⟨r,hr⟩:=aR (l:=m) (i:=i) (by rw[h.1];exact hi);rw[BG hr];exact⟨hr,h.2 r (aA hr)⟩
def acN (m:L2)(i k:Nat):at2 m i k=at1 (gat m i) k:=rfl
def M4 (h:sq2 n m)(hi:i<n:=by omega)(hk:k<n:=by omega):(gat m i)[k]?=some (at2 m i k):=by
 rw[acN];exact aY (by rw[(sW h hi).2];exact hk)
def xW (h:sq2 n m)(hi:i<n)(v:Int):sq2 n (set2 m i k v):=by
 refine⟨by simp[set2,h.1],fun r hr=> ?_⟩;rcases jJ hr with h1|rfl
 ·exact h.2 r h1
 ·simp[(sW h hi).2]
def EC (h:sq2 n m)(hi:i<n)(hk:k<n)(v:Int)(a b:Nat):at2 (set2 m i k v) a b=if a=i/\b=k then v else at2 m a b:=by
 rw[acN,set2,atF a (by rw[h.1];exact hi)];by_cases ha:i=a
 ·subst ha;rw[if_pos rfl,zJ b (by rw[(sW h hi).2];exact hk),acN];by_cases hb:k=b
  ·subst hb;simp
  ·rw[if_neg hb,if_neg (by omega)]
 ·rw[if_neg ha,if_neg (by omega),acN]
def KJ (n a b:Nat):at2 (zeros n) a b=0:=by
 by_cases ha:a<n<;>by_cases hb:b<n<;>simp[at2,zeros,aC,ha,hb]
def ai0 (h:sq2 n m)(hn:1<=n/\n<=8)(hr:∀a b,a<n->b<n-> -1000<=at2 m a b/\at2 m a b<=1000/\at2 m a b=at2 m b a)(hd:∀a<n,at2 m a a=0):bR m=true:=by
 rw[ZV,h.1];simp only[FM,X4,k_Bool_and_eq_true,aI,bB,decide_eq_true_eq];refine⟨fun i hi=>⟨⟨?_,hd i hi⟩,fun k hk=> ?_⟩,by omega⟩
 ·rw[(sW h hi).2,h.1]
 ·have:=hr i k hi (by omega);exact⟨⟨this.1,this.2.1⟩,this.2.2.symm⟩
def rD (m:L2)(c:Con):L2:=if c.same then set2 (set2 m c.a.toNat c.b.toNat 1) c.b.toNat c.a.toNat 1 else m
def P8 (n:Nat)(l:List Con):L2:=l.foldl rD (zeros n)
def X8 {c:Con}(h:sq2 n m)(hc:0<=c.a/\c.a<c.b/\c.b<(n:Int)):sq2 n (rD m c):=by
 unfold rD;split
 ·exact xW (xW h (by omega) 1) (by omega) 1
 ·exact h
def aeY :∀(cs:List Con) (m:L2),sq2 n m->(∀c∈cs,0<=c.a/\c.a<c.b/\c.b<(n:Int))->sq2 n (cs.foldl rD m)/\∀a b,at2 (cs.foldl rD m) a b=if(cs.any fun c=>c.same&&(decide (c.a=a/\c.b=b)||decide (c.a=b/\c.b=a)))=true then 1 else at2 m a b
 |[],m,h,_=>⟨h,fun a b=>by simp⟩
 |c::cs,m,h,hc=>by
  have h0:=hc c (by simp);obtain⟨h1,h2⟩:=aeY cs (rD m c) (X8 h h0) fun d hd=>hc d (by simp[hd]);refine⟨h1,fun a b=> ?_⟩;rw[k_List_foldl_cons,h2,List.any_cons];by_cases hx:(cs.any fun c=>c.same&&(decide (c.a=a/\c.b=b)||decide (c.a=b/\c.b=a)))=true
  ·rw[if_pos hx,hx,Bool.or_true,if_pos rfl]
  ·have hx2:(cs.any fun c=>c.same&&(decide (c.a=a/\c.b=b)||decide (c.a=b/\c.b=a)))=false:=by simpa using hx
   rw[if_neg hx,hx2,Bool.or_false];unfold rD;cases hs:c.same with
   |false=>simp
   |true=>
    simp only[if_true,eZ];rw[EC (xW h (by omega) 1) (by omega) (by omega),EC h (by omega) (by omega)];by_cases h3:a=c.b.toNat/\b=c.a.toNat
    ·rw[if_pos h3,if_pos];simp only[bM,decide_eq_true_eq];omega
    ·rw[if_neg h3];by_cases h4:a=c.a.toNat/\b=c.b.toNat
     ·rw[if_pos h4,if_pos];simp only[bM,decide_eq_true_eq];omega
     ·rw[if_neg h4,if_neg];simp only[bM,decide_eq_true_eq];omega
def afJ (hc:dA n cs=true):sq2 n (P8 n cs)/\∀a b,(at2 (P8 n cs) a b=0\/at2 (P8 n cs) a b=1)/\(0<at2 (P8 n cs) a b↔∃c∈cs,NI c a b):=by
 obtain⟨h1,h2⟩:=aeY cs (zeros n) (pM n) (uN hc);refine⟨h1,fun a b=> ?_⟩;have h3:=h2 a b;rw[KJ]at h3;rw[P8,h3]
 have h4:(cs.any fun c=>c.same&&(decide (c.a=a/\c.b=b)||decide (c.a=b/\c.b=a)))=true↔∃c∈cs,NI c a b:=by
  simp[dH,NI]
 rw[←h4];by_cases h:(cs.any fun c=>c.same&&(decide (c.a=a/\c.b=b)||decide (c.a=b/\c.b=a)))=true
 ·rw[if_pos h];exact⟨.inr rfl,fun _=>h,fun _=>by omega⟩
 ·rw[if_neg h];exact⟨.inl rfl,fun h2=>absurd h2 (by omega),fun h2=>absurd h2 h⟩
def aa3 (hc:dA n cs=true):bR (P8 n cs)=true:=by
 obtain⟨h1,h2⟩:=afJ hc;have hn:=mE hc
 have hs:∀a b,at2 (P8 n cs) a b=at2 (P8 n cs) b a:=by
  intro a b;have e1:=(h2 a b).2;have e2:=(h2 b a).2;have e3:(∃c∈cs,NI c a b)↔∃c∈cs,NI c b a:=⟨fun⟨c,h,h'⟩=>⟨c,h,U0 h'⟩,fun⟨c,h,h'⟩=>⟨c,h,U0 h'⟩⟩;rw[e3,←e2]at e1;have:=(h2 a b).1;have:=(h2 b a).1;omega
 refine ai0 h1 (by omega) (fun a b _ _=> ?_) fun a ha=> ?_
 ·have:=(h2 a b).1;exact⟨by omega,by omega,hs a b⟩
 ·have e1:=(h2 a a).2;have e0:=(h2 a a).1;rcases e0 with e0|e0
  ·exact e0
  ·obtain⟨c,hm,_,hl⟩:=e1.1 (by omega);have:=uN hc c hm;omega
def arP (hc:dA n cs=true):oW (P8 n cs)=eH n cs:=
 ayQ hc (aa3 hc) (afJ hc).1.1 fun a b _ _=>((afJ hc).2 a b).2
def zO (f:Nat->Nat->Bool)(i k:Nat)(m:L2):L2:=if f i k=true then set2 m i k 1 else m
def Z5 (n:Nat)(f:Nat->Nat->Bool)(i:Nat)(m:L2):L2:=loopN n m (zO f i)
def ones (n:Nat)(f:Nat->Nat->Bool):L2:=loopN n (zeros n) (Z5 n f)
variable {f:Nat->Nat->Bool}
def afQ (h:sq2 n m)(hi:i<n):sq2 n (zO f i k m):=by
 unfold zO;split
 ·exact xW h hi 1
 ·exact h
variable {j:Nat}
def awS (h:sq2 n m)(hi:i<n):sq2 n (loopN j m (zO f i)):=loopN_inv (fun _ m=>sq2 n m) h fun k m _ hm=>afQ hm hi
def atU (hj:j<=n):sq2 n (loopN j (zeros n) (Z5 n f)):=loopN_inv (fun _ m=>sq2 n m) (pM n) fun i m hi hm=>awS hm (by omega)
def ac0 {a b:Nat}:at2 (ones n f) a b=if a<n/\b<n/\f a b=true then 1 else 0:=by
 have h:=loopN_inv (n:=n) (s:=zeros n) (f:=Z5 n f) (fun i m=>sq2 n m/\∀a b,at2 m a b=if a<i/\b<n/\f a b=true then 1 else 0) ⟨pM n,fun a b=>by rw[KJ,if_neg (by omega)]⟩ fun i m hi ⟨h1,h2⟩=>by
  have h3:=loopN_inv (n:=n) (s:=m) (f:=zO f i) (fun k m'=>sq2 n m'/\∀a b,at2 m' a b=if(a<i/\b<n\/a=i/\b<k)/\f a b=true then 1 else 0) ⟨h1,fun a b=>by rw[h2];split<;>split<;>first|rfl|(exfalso;simp_all;done)|(exfalso;grind)⟩ fun k m' hk ⟨h4,h5⟩=>by
   refine⟨afQ h4 hi,fun a b=> ?_⟩;unfold zO;split
   ·next hf=>
    rw[EC h4 hi hk,h5];by_cases hab:a=i/\b=k
    ·obtain⟨rfl,rfl⟩:=hab;simp[hf]
    ·rw[if_neg hab];split<;>split<;>first|rfl|(exfalso;grind)
   ·next hf=>
    rw[h5];split<;>split<;>first|rfl|(exfalso;grind)
  refine⟨h3.1,fun a b=> ?_⟩;rw[Z5,h3.2];split<;>split<;>first|rfl|(exfalso;grind)
 exact h.2 a b
def CL (p q:L1)(i k:Nat):Bool:=decide (i≠k)&&(decide (at1 p i=at1 p k)||decide (at1 q i=at1 q k))
def PY (p q:L1):L2:=ones p.length (CL p q)
variable {p q:L1}
def aaV (hp:1<=p.length/\p.length<=8):bR (PY p q)=true:=by
 refine ai0 (atU (k_Nat_le_refl _)) hp (fun a b ha hb=> ?_) fun a ha=> ?_
 ·have h1:CL p q a b=CL p q b a:=by
   unfold CL;rw[bQ];simp only[k_Bool_and_eq_true,bM,decide_eq_true_eq];constructor<;>(rintro⟨h1,h2⟩;exact⟨by omega,by omega⟩)
  show -1000<=at2 (PY p q) a b/\at2 (PY p q) a b<=1000/\at2 (PY p q) a b=at2 (PY p q) b a;rw[PY,ac0,ac0,h1];refine⟨by split<;>omega,by split<;>omega,?_⟩;simp[ha,hb]
 ·show at2 (PY p q) a a=0;rw[PY,ac0,if_neg];simp[CL]
def aq7 (hp:1<=p.length/\p.length<=8):oW (PY p q)=EK p q:=by
 refine ayO (aaV hp) (atU (k_Nat_le_refl _)).1 fun a b ha hb hne=> ?_;rw[PY,ac0];simp only[CL,ha,hb,true_and,k_Bool_and_eq_true,bM,decide_eq_true_eq];split
 ·next h=>simp[h.2]
 ·next h=>simp;omega
def ahK (m:L2)(l:L1)(i k:Nat):tC m l i k=if at1 l i=at1 l k then max 0 (- at2 m i k)else max 0 (at2 m i k):=by
 unfold tC;split<;>split<;>(try split)<;>omega
variable {a b:List Con}
def afA (h:a.Perm b):keepP a=keepP b:=by
 funext l;unfold keepP;rw[h.all_eq]
def alJ (h:a.Perm b)(l:L1):mR m a l=mR m b l:=by
 have h1:=afA h;unfold mR alV adM yF;rw[h1]
def ae5 (h:a.Perm b):∀(f:Nat) (l:L1),rP m a f l=rP m b f l
 |0,l=>rfl
 |f+1,l=>by rw[rP,rP,alJ h,ae5 h f]
def akU (h:a.Perm b)(ha:dA s.length a=true):lX s a=lX s b:=by
 unfold lX;rw[afA h,X7 ha (by rw[←AX h];exact ha) fun c=>h.mem_iff]
def aoS (h:a.Perm b)(hp:Part m a items):partOf m a items=partOf m b items:=by
 have hr:=akP h items;have ha:dA (kN m items).length (iM a items)=true:=by rw[hp.len];exact hp.are
 unfold partOf;rw[akU hr ha,ae5 hr,YO hp.mat ha,YO hp.mat (by rw[←AX hr];exact ha),alI hr]
def agN (hm:bR m=true)(h:a.Perm b):nK m a=nK m b:=by
 unfold nK;rw[NC h];split
 ·next hb=>
  have ha:eP m.length a=true:=by rw[NC h];exact hb
  have hab:=(iZ.1 hb).1
  have hsp:dJ m a=dJ m b:=by
   unfold dJ;rw[AX h];split
   ·rw[X7 (iZ.1 ha).1 hab fun c=>h.mem_iff]
   ·rfl
  have hsc:=JQ hm hab;unfold nR ahG;rw[hsp];refine congrArg canon (xE fun i L hi=> ?_);have hsel:=QX (isPart_iff.1 hsc.2.1).1 hi;rw[hsc.2.2]at hsel;unfold FZ;rw[aoS h (akM hm ha hsel.1 hsel.2.1 hsel.2.2)]
 ·rfl
end Go.Pl
end
section
namespace Go
def kJ:= @List.length_pos_iff
def rU:= @UInt8.toNat_ofNat'
end Go
end
section
namespace Go.Pl
open Go.Dv
def QV (c:UInt8):UInt8:=if xJ c=true then c else 32
def aCZ {c:UInt8}{n:Nat}(hn:n<256)(h:c.toNat=n):c=UInt8.ofNat n:=by
 apply k_UInt8_toNat_inj.1;rw[h,rU];omega
def axB (c:UInt8):BR c=if c.toNat=39 then[]else[QV c]:=by
 unfold BR QV;by_cases h9:c.toNat=39
 ·have hw:xJ c=false:=by unfold xJ;rw[h9];decide
  rw[if_pos h9,if_neg (by rw[hw,h9];simp),if_neg (by omega)]
 ·rw[if_neg h9];by_cases hw:xJ c=true
  ·rw[if_pos (.inl hw),if_pos hw]
  ·rw[if_neg hw];by_cases h2:c.toNat=32
   ·rw[if_pos (.inr h2),aCZ (by omega) h2];rfl
   ·rw[if_neg (by rintro(h|h);exact hw h;exact h2 h),if_pos h9]
def aCI (s:Str):(s.filter fun c=> !decide (c=39)).map QV=yX s:=by
 unfold yX
 induction s with
 |nil=>rfl
 |cons c s ih=>
  rw[yM,←ih,axB,List.filter_cons];by_cases h:c=39
  ·subst h;simp
  ·have:¬c.toNat=39:=fun e=>h (aCZ (n:=39) (by omega) e);simp[h,this]
def VT (o:Str)(c:UInt8):Str:=if c≠32\/(o≠[]/\o.getLast?≠some 32)then o++[c]else o
def ai6 (o:Str):Str:=if o.getLast?=some 32 then o.dropLast else o
def as1 (s:Str):∀i≤s.length,(s.take i).foldl VT []=loopN i [] (rE s)++(if loopN i [] (rE s)≠[]/\s.getD (i-1) 0=32 then[32]else[])/\(loopN i [] (rE s)).getLast?≠some 32
 |0,_=>by simp[loopN]
 |i+1,h=>by
  obtain⟨h1,h2⟩:=as1 s i (by omega);obtain⟨c,hc⟩:=aR (l:=s) (i:=i);rw[fH VT [] hc,aM,nN,XT hc];generalize loopN i [] (rE s)=o at h1 h2|-
  rw[h1];have h32:∀x:UInt8,x.toNat=32↔x=32:=fun x=>⟨fun e=>aCZ (n:=32) (by omega) e,fun e=>by subst e;rfl⟩;unfold rE VT;rw[XT hc];generalize s.getD (i-1) 0=q;simp only[h32];by_cases hs:c=32
  ·subst hs;rw[if_pos rfl];refine⟨?_,h2⟩;by_cases ho:o=[]
   ·subst ho;simp
   ·by_cases hp:q=32
    ·simp[ho,hp]
    ·simp[ho,hp,h2]
  ·rw[if_neg hs,if_pos (.inl hs)];refine⟨?_,by simp[hs]⟩;have:(0<o.length↔o≠[]):=by rw[kJ]
   simp only[this,hs,and_false,if_false,bZ];split<;>simp
def aaL (s:Str):ED s=ai6 (s.foldl VT []):=by
 obtain⟨h1,h2⟩:=as1 s s.length (k_Nat_le_refl _);rw[bV]at h1;unfold ai6 ED;rw[h1];generalize loopN s.length [] (rE s)=o at h2|-
 by_cases h:o≠[]/\s.getD (s.length-1) 0=32
 ·rw[if_pos h];simp
 ·rw[if_neg h,bZ,if_neg h2]
def M9 (s:Str):List Str:=(ad6 32 s).filter fun x=>decide (x≠[])
def sK (s:Str×Int)(c:UInt8):Str×Int:=(if aO c>0/\aO c≠s.2 then s.1++[UInt8.ofNat (48+aO c).toNat]else s.1,if 0<=aO c then aO c else s.2)
variable {o:Str}
def aJN (x:UInt8)(h:o≠[]):(if(o.take 4).length<4 then o.take 4++[x]else o.take 4)=(o++[x]).take 4:=by
 match o with
 |[a]=>rfl
 |[a,b]=>rfl
 |[a,b,c]=>rfl
 |a::b::c::d::t=>simp
def auC:∀(s o:Str) (p:Int),o≠[]->s.foldl wH (o.take 4,p)=((s.foldl sK (o,p)).1.take 4,(s.foldl sK (o,p)).2)
 |[],o,p,h=>rfl
 |c::s,o,p,h=>by
  have h4:o.take 4≠[]:=by cases o with
   |nil=>exact absurd rfl h
   |cons a t=>simp
  rw[k_List_foldl_cons,k_List_foldl_cons]
  have e:wH (o.take 4,p) c=((sK (o,p) c).1.take 4,(sK (o,p) c).2):=by
   unfold wH sK;rw[if_neg h4];simp only;congr 1;by_cases h1:aO c>0/\aO c≠p
   ·rw[if_pos h1,←aJN _ h];by_cases h2:(o.take 4).length<4
    ·rw[if_pos ⟨h1.1,h1.2,h2⟩,if_pos h2]
    ·rw[if_neg (fun hh=>h2 hh.2.2),if_neg h2]
   ·rw[if_neg (fun hh=>h1 ⟨hh.1,hh.2.1⟩),if_neg h1]
  have hne:(sK (o,p) c).1≠[]:=by
   unfold sK;simp only;split
   ·simp
   ·exact h
  rw[e];exact auC s _ _ hne
def awX (h:o≠[]):acE (o.take 4)=(o++[48,48,48]).take 4:=by
 match o with
 |[a]=>rfl
 |[a,b]=>rfl
 |[a,b,c]=>rfl
 |a::b::c::d::t=>simp[acE]
def asB (c:UInt8)(s:Str)(h:(c::s).all (fun c=>decide (aO c≠ -2))=true):jK (c::s)=((s.foldl sK ([iU c],aO c)).1++[48,48,48]).take 4:=by
 unfold jK;rw[if_neg (by rw[h];simp),k_List_foldl_cons];have e:wH ([],0) c=(([iU c]:Str).take 4,aO c):=by simp[wH]
 rw[e,auC s _ _ (by simp),awX]
 have key:∀(s o:Str) (p:Int),o≠[]->(s.foldl sK (o,p)).1≠[]:=by
  intro s
  induction s with
  |nil=>exact fun o p h=>h
  |cons d s ih=>
   intro o p h;rw[k_List_foldl_cons];refine ih _ _ ?_;simp only;split
   ·simp
   ·exact h
 exact key s _ _ (by simp)
def asC {s:Str}(h:s.all (fun c=>decide (aO c≠ -2))=false):jK s=[]:=by
 unfold jK;rw[if_pos (.inr h)]
def acI (c:UInt8):aO c=if 97<=(iU c).toNat/\(iU c).toNat<=122 then codeOf (iU c).toNat else -2:=by
 unfold aO;split
 ·rfl
 ·next h=>
  unfold codeOf;repeat(first|rfl|omega|split)
def aDQ (x y:Str)(tr:Bool):∀(s i j:Nat),i+j=s->ed x y tr i j=ed y x tr j i:=by
 intro s
 induction s using Nat.strongRecOn with
 |_ s ih=>
  intro i j h
  match i,j with
  |0,j=>rw[ed_zero,ed_zero']
  |i+1,0=>rw[ed_zero,ed_zero']
  |i+1,j+1=>
   have e1:=ih (i+j) (by omega) i j rfl;have e2:=ih (i+(j+1)) (by omega) i (j+1) rfl;have e3:=ih (i+1+j) (by omega) (i+1) j rfl;have e4:=ih (i-1+(j-1)) (by omega) (i-1) (j-1) rfl
   have hv:edV x y tr i j=edV y x tr j i:=by
    unfold edV;rw[e1,e2,e3];by_cases hc:chr x i=chr y j
    ·rw[if_pos hc,if_pos hc.symm]
    ·rw[if_neg hc,if_neg (fun e=>hc e.symm)];omega
   have hs:wM x y tr (i+1) (j+1)=wM y x tr (j+1) (i+1):=by
    unfold wM;rw[bQ];simp only[k_Bool_and_eq_true,decide_eq_true_eq,nN];have e5:i+1-2=i-1:=by omega
    have e6:j+1-2=j-1:=by omega
    rw[e5,e6];constructor
    ·rintro⟨⟨⟨⟨a,b⟩,c⟩,d⟩,e⟩;exact⟨⟨⟨⟨a,c⟩,b⟩,e.symm⟩,d.symm⟩
    ·rintro⟨⟨⟨⟨a,b⟩,c⟩,d⟩,e⟩;exact⟨⟨⟨⟨a,c⟩,b⟩,e.symm⟩,d.symm⟩
   rw[D8,D8,hv,hs,e4]
def amG (x y:Str):qX x y=qX y x:=by
 rw[ZB,ZB,aDQ x y false _ _ _ rfl];have:GK x y=GK y x:=by unfold GK;rw[Bool.and_comm]
 rw[this]
def QQ (x y:Str):pQ x y=pQ y x:=by
 have h1:∀a b:Str,xM a b=xM b a:=fun a b=>by unfold xM;rw[amG,Int.max_comm]
 unfold pQ;rw[h1];by_cases h:normal x=[]\/normal y=[]
 ·rw[if_pos h,if_pos h.symm]
 ·rw[if_neg h,if_neg (fun e=>h e.symm)]
def EP:∀(a b:List Str),mcount a b=mcount b a
 |[],[]=>rfl
 |[],_::_=>by simp[mcount]
 |_::_,[]=>by simp[mcount]
 |a::x,b::y=>by
  rw[mcount,mcount];rcases FX a b with h|rfl|h
  ·rw[if_pos h,if_neg (by rw[DL h];simp),if_pos h,EP x (b::y)]
  ·rw[if_neg (by rw[kE];simp),if_neg (by rw[kE];simp),if_neg (by rw[kE];simp),if_neg (by rw[kE];simp),EP x y]
  ·rw[if_neg (by rw[DL h];simp),if_pos h,if_pos h,EP (a::x) y]
termination_by a b=>a.length+b.length
def TH (a b:List Str):uF a b=uF b a:=by
 have h1:BJ a b=BJ b a:=by
  rw[UX,UX,EP];have:wO a b=wO b a:=by unfold wO;rw[Bool.and_comm]
  rw[this,Int.add_comm (a.length:Int)]
 unfold uF;rw[h1];by_cases h:a=[]\/b=[]
 ·rw[if_pos h,if_pos h.symm]
 ·rw[if_neg h,if_neg (fun e=>h e.symm)]
def QH:∀(a b:Str),shared a b=shared b a
 |[],[]=>rfl
 |[],_::_=>rfl
 |_::_,[]=>rfl
 |a::x,b::y=>by
  rw[shared,shared,QH x y];by_cases h:a=b
  ·rw[if_pos h,if_pos h.symm]
  ·rw[if_neg h,if_neg (fun e=>h e.symm)]
def arW (x y:Str):sJ x y=sJ y x:=by
 unfold sJ JP;rw[QH (digits y).reverse];generalize shared (digits x).reverse (digits y).reverse=n;generalize(digits x).length=a;generalize(digits y).length=b;repeat(first|rfl|omega|split)
def axR (x y:Str):uH x y=uH y x:=by
 have h1:∀a b:Int,mX a b 10=mX b a 10:=fun a b=>by
  unfold mX;rw[Int.max_comm,Int.min_comm];have e:(inR b 0 9999=true/\inR a 0 9999=true/\inR 10 1 9999=true)↔(inR a 0 9999=true/\inR b 0 9999=true/\inR 10 1 9999=true):=⟨fun h=>⟨h.2.1,h.1,h.2.2⟩,fun h=>⟨h.2.1,h.1,h.2.2⟩⟩;simp only[e]
 unfold uH;rw[h1];by_cases h:0<jC x/\0<jC y
 ·rw[if_pos h,if_pos h.symm]
 ·rw[if_neg h,if_neg (fun e=>h e.symm)]
def aqO (a b:Rec):sN a b=sN b a:=by
 unfold sN;rw[QQ (fld a 0),TH (tokens (fld a 0)),TH (mK (fld a 0)),QQ (fld a 1),axR,arW]
end Go.Pl
end
section
namespace Go
def gM:= @List.pairwise_append
end Go
end
section
namespace Go.Pl
open Go.Dv
def leS (x y:Str):decide (x<=y)= !ltL y x:=by
 unfold ltL;rw[Go.Proofs.bytesLess_eq];by_cases h:y<x
 ·have h2:¬x<=y:=by rw[←List.not_lt];simpa using h
  simp[h,h2]
 ·have h2:x<=y:=by rw[←List.not_lt];exact h
  simp[h,h2]
def ad3 {L:List Str}(hs:∀i j (hi:i<j) (hj:j<L.length),ltL (L[j]'hj) (L[i]'(by omega))=false):∀m≤L.length,Asc (Lib.compactUpTo L.toArray m)/\∀z,z∈Lib.compactUpTo L.toArray m↔z∈L.take m
 |0,_=>by simp[Lib.compactUpTo]
 |m+1,h=>by
  obtain⟨h1,h2⟩:=ad3 hs m (by omega);have hg:∀i (hi:i<L.length),L.toArray[i]! =L[i]:=fun i hi=>by simp[hi]
  have hx:L[m]?=some L[m]:=aB (by omega);rw[Lib.compactUpTo_succ,dM hx];by_cases hk:Lib.keeps L.toArray m=true
  ·rw[if_pos hk,hg m (by omega)];refine⟨gM.2 ⟨h1,by simp,fun z hz y hy=> ?_⟩,fun z=>by rw[k_List_mem_append,h2,k_List_mem_append]⟩;obtain rfl:y=L[m]:=by simpa using hy
   have hz2:=(h2 z).1 hz;obtain⟨j,hj⟩:=dD hz2;have hjm:j<m:=by have:=dF hj;simp at this;omega
   rw[bC,if_pos hjm,aB (by omega)]at hj;obtain rfl:=k_Option_some_inj hj;simp only[Lib.keeps,decide_eq_true_eq]at hk
   have hne:L[m-1]≠L[m]:=by
    rcases hk with hk|hk
    ·omega
    ·rw[hg m (by omega),hg (m-1) (by omega)]at hk;exact fun e=>hk e.symm
   have hlast:ltL L[m-1] L[m]=true:=by
    rcases FX L[m-1] L[m]with h3|h3|h3
    ·exact h3
    ·exact absurd h3 hne
    ·rw[hs (m-1) m (by omega) (by omega)]at h3;cases h3
   by_cases hj1:j=m-1
   ·subst hj1;exact hlast
   ·rcases FX L[j] L[m-1]with h3|h3|h3
    ·exact AO h3 hlast
    ·rw[h3];exact hlast
    ·rw[hs j (m-1) (by omega) (by omega)]at h3;cases h3
  ·rw[if_neg hk,bZ];refine⟨h1,fun z=> ?_⟩;rw[h2,k_List_mem_append];simp only[Lib.keeps,decide_eq_true_eq,not_or,Decidable.not_not]at hk;rw[hg m (by omega),hg (m-1) (by omega)]at hk;constructor
   ·exact .inl
   ·rintro(h3|h3)
    ·exact h3
    ·obtain rfl:z=L[m]:=by simpa using h3
     rw[hk.2];exact aA (i:=m-1) (by rw[bC,if_pos (by omega)];exact aB _)
def sO (l:List Str):List Str:=l.mergeSort fun x y=>decide (x<=y)
def BQ (l:List Str):List Str:=Lib.compact (sO l)
def uG (l:List Str):(sO l).length=l.length:=by simp[sO]
def abE (l:List Str):Asc (BQ l)/\∀z,z∈BQ l↔z∈l:=by
 have hp:(sO l).Pairwise fun x y=>decide (x<=y)=true:=by
  refine List.pairwise_mergeSort (fun a b c h1 h2=> ?_) (fun a b=> ?_) l
  ·rw[leS]at h1 h2|-
   simp only[gF]at h1 h2|-
   rcases FX a b with h3|h3|h3
   ·cases hca:ltL c a with
    |false=>rfl
    |true=>rw[AO hca h3]at h2;cases h2
   ·rw[h3];exact h2
   ·rw[h3]at h1;cases h1
  ·rw[leS,leS];rcases FX a b with h3|h3|h3
   ·rw[DL h3];rfl
   ·rw[h3,kE];rfl
   ·rw[DL h3];simp
 have hs:∀i j (hi:i<j) (hj:j<(sO l).length),ltL ((sO l)[j]'hj) ((sO l)[i]'(by omega))=false:=fun i j hi hj=>by
  have:=dQ.1 hp i j (by omega) hj hi;rw[leS]at this;simpa using this
 obtain⟨h1,h2⟩:=ad3 hs (sO l).length (k_Nat_le_refl _);refine⟨h1,fun z=> ?_⟩;rw[BQ,Lib.compact,h2,bV,sO,List.mem_mergeSort]
variable {l:List Str}
def aiY (h:Asc l):sO l=l:=by
 refine List.mergeSort_of_pairwise (h.imp fun{a b} hab=> ?_);rw[leS,DL hab];rfl
def af6 {r:List Str}(hr:Asc r)(h:∀z,z∈r↔z∈l):BQ l=r:=(abE l).1.unique hr fun z=>by rw[(abE l).2,h]
def QI (l:List Str):(BQ l).length<=l.length:=by
 have h:∀m≤(sO l).length,(Lib.compactUpTo (sO l).toArray m).length<=m:=by
  intro m hm
  induction m with
  |zero=>simp[Lib.compactUpTo]
  |succ m ih=>
   rw[Lib.compactUpTo_succ,aP];have:=ih (by omega);split<;>simp<;>omega
 exact k_Nat_le_trans (h (sO l).length (k_Nat_le_refl _)) (Nat.le_of_eq (uG l))
def TK (s:Str):BQ (M9 (normal s))=tokens s:=af6 (VI s).1 fun z=>by rw[(VI s).2,M9,dW,decide_eq_true_eq]
def anB (l:List Str):List Str:=(l.map jK).filter fun x=>decide (x≠[])
def anC (s:Str):BQ (anB (tokens s))=mK s:=af6 (TJ s).1 fun z=>by
 rw[(TJ s).2,anB,dW,dG,decide_eq_true_eq];constructor
 ·rintro⟨t,h1,h2,rfl⟩;exact⟨⟨t,h1,rfl⟩,h2⟩
 ·rintro⟨⟨t,h1,rfl⟩,h2⟩;exact⟨t,h1,h2,rfl⟩
def VE:∀(a b:Str),shared a b=b.length↔b.isPrefixOf a=true
 |[],[]=>by simp[shared]
 |[],b::y=>by simp[shared,List.isPrefixOf]
 |a::x,[]=>by simp[shared,List.isPrefixOf]
 |a::x,b::y=>by
  have:=VE x y;rw[shared,List.isPrefixOf];by_cases h:a=b
  ·subst h;simp[this]
  ·have h2:(b==a)=false:=by simp;exact fun e=>h e.symm
   rw[if_neg h,h2];simp
def aiW:∀(a b:Str),(shared a b=a.length/\shared a b=b.length)↔a=b
 |[],[]=>by simp[shared]
 |[],b::y=>by simp[shared]
 |a::x,[]=>by simp[shared]
 |a::x,b::y=>by
  have:=aiW x y;rw[shared];by_cases h:a=b
  ·subst h;simp[this]
  ·rw[if_neg h];simp[h]
def arV (p q:Str):JP p q=if p.length<4\/q.length<4\/shared p.reverse q.reverse<4 then 0 else if p=q then 1000 else if shared p.reverse q.reverse>=7\/q.isSuffixOf p=true\/p.isSuffixOf q=true then 800 else 400:=by
 have h1:=aiW p.reverse q.reverse;have h2:=VE p.reverse q.reverse;have h3:=VE q.reverse p.reverse;rw[QH q.reverse]at h3;simp only[List.length_reverse,List.reverse_inj]at h1 h2 h3;unfold JP List.isSuffixOf;simp only[←h2,←h3,h1];have e:(shared p.reverse q.reverse>=7\/shared p.reverse q.reverse=p.length\/shared p.reverse q.reverse=q.length)↔(shared p.reverse q.reverse>=7\/shared p.reverse q.reverse=q.length\/shared p.reverse q.reverse=p.length):=by omega
 simp only[e]
def aaN (E:Int->Int->Prop)(v:Ver):Int->Int->Prop:=fun x y=>E x y\/(E x v.a/\E y v.b)\/(E x v.b/\E y v.a)
def qW (m n:Int)(z:Int):Int:=if z=max m n then min m n else z
def vM (o:L1)(v:Ver):L1:=if v.same then o.map (qW (at1 o v.a.toNat) (at1 o v.b.toNat))else o
def BM:L1:=(List.range 400).map fun(i:Nat)=>(i:Int)
def kG (l:List Ver):L1:=l.foldl vM BM
def inT (x:Int):Prop:=0<=x/\x<400
structure OD (E:Int->Int->Prop) (o:L1):Prop where
 len:o.length=400
 rng:∀i<400,0<=at1 o i/\at1 o i<400
 eq:∀x y,inT x->inT y->(at1 o x.toNat=at1 o y.toNat↔E x y)
variable {i:Nat}
def adI {o:L1}{f:Int->Int}(h:i<o.length):at1 (o.map f) i=f (at1 o i):=by
 have:=aY h;simp only[at1,aC,aQ];rw[aB h];rfl
def OD.step {E:Int->Int->Prop}{o:L1}(h:OD E o){v:Ver}(ha:inT v.a)(hb:inT v.b)(hs:v.same=true):OD (aaN E v) (vM o v):=by
 have hst:vM o v=o.map (qW (at1 o v.a.toNat) (at1 o v.b.toNat)):=if_pos hs;have r1:=h.rng v.a.toNat (by unfold inT at ha;omega);have r2:=h.rng v.b.toNat (by unfold inT at hb;omega);rw[hst];refine⟨by rw[aK];exact h.len,fun i hi=> ?_,fun x y hx hy=> ?_⟩
 ·rw[adI (by rw[h.len];exact hi)];have:=h.rng i hi;unfold qW;split<;>omega
 ·unfold aaN;rw[adI (by rw[h.len];unfold inT at hx;omega),adI (by rw[h.len];unfold inT at hy;omega),←h.eq x y hx hy,←h.eq x v.a hx ha,←h.eq y v.b hy hb,←h.eq x v.b hx hb,←h.eq y v.a hy ha];generalize at1 o x.toNat=X;generalize at1 o y.toNat=Y;generalize at1 o v.a.toNat=A;generalize at1 o v.b.toNat=B;unfold qW;split<;>split<;>omega
def OD.fold:∀(l:List Ver) {E:Int->Int->Prop}{o:L1},OD E o->(∀v∈l,inT v.a/\inT v.b)->OD ((l.filter fun v=>v.same).foldl aaN E) (l.foldl vM o)
 |[],_,_,h,_=>h
 |v::l,E,o,h,hv=>by
  have h1:=hv v (by simp);have h2:=fun w hw=>hv w (aV v hw);rw[k_List_foldl_cons,List.filter_cons];cases hs:v.same with
  |true=>rw[if_pos rfl,k_List_foldl_cons];exact OD.fold l (h.step h1.1 h1.2 hs) h2
  |false=>
   rw[if_neg (by simp)];have:vM o v=o:=if_neg (by simp[hs]);rw[this];exact OD.fold l h h2
def aAE:OD (fun x y=>x=y) BM:=by
 have h0:∀i<400,at1 BM i=i:=fun i hi=>by simp[at1,BM,aC,hi]
 refine⟨by simp[BM],fun i hi=>by rw[h0 i hi];omega,fun x y hx hy=> ?_⟩;unfold inT at hx hy;rw[h0 _ (by omega),h0 _ (by omega)];omega
def aEJ {l:List Ver}(hv:∀v∈l,inT v.a/\inT v.b):OD ((vP l).foldl aaN fun x y=>x=y) (kG l):=OD.fold l aAE hv
abbrev Dj (g:L2):Prop:=g.Pairwise fun r r'=>∀u∈r,u∉r'
def aCA (g:L2)(x y:Int):Prop:=∃r∈g,x∈r/\y∈r
def eqG (g:L2)(x y:Int):Prop:=x=y\/aCA g x y
variable {x:Int}{r:L1}
def aj3 :grp x r=true↔x∈r:=by simp[grp]
variable {g:L2}
def wW (h:0<=eX g x):g[(eX g x).toNat]?=some (gat g (eX g x).toNat)/\x∈gat g (eX g x).toNat:=by
 unfold eX ix at h|-
 cases hf:g.findIdx? (grp x)with
 |none=>rw[hf]at h;simp at h
 |some i=>
  obtain⟨h1,h2,_⟩:=fD.1 hf;simp only[iB];have h3:g[i]?=some g[i]:=aB h1;rw[BG h3];exact⟨h3,aj3.1 h2⟩
def UW (h:¬0<=eX g x)(hr:r∈g):x∉r:=fun hx=>h (jB.2 (dH.2 ⟨r,hr,aj3.2 hx⟩))
variable {r':L1}{u:Int}
def Dj.uniq (h:Dj g){j:Nat}(hi:g[i]?=some r)(hj:g[j]?=some r')(hu:u∈r)(hu':u∈r'):i=j:=by
 have l1:=dF hi;have l2:=dF hj;rw[aB l1]at hi;rw[aB l2]at hj;obtain rfl:=k_Option_some_inj hi;obtain rfl:=k_Option_some_inj hj;have hp:=dQ.1 h;rcases oJ i j with h1|h1|h1
 ·exact absurd hu' (hp i j l1 l2 h1 u hu)
 ·exact h1
 ·exact absurd hu (hp j i l2 l1 h1 u hu')
def Dj.one (h:Dj g)(hr:r∈g)(hr':r'∈g)(hu:u∈r)(hu':u∈r'):r=r':=by
 obtain⟨i,hi⟩:=dD hr;obtain⟨j,hj⟩:=dD hr';obtain rfl:=h.uniq hi hj hu hu';rw[hi]at hj;exact k_Option_some_inj hj
def am0 (h:Dj g)(hi:g[i]?=some r)(hx:x∈r):eX g x=i:=by
 have h0:0<=eX g x:=jB.2 (dH.2 ⟨r,aA hi,aj3.2 hx⟩);obtain⟨h1,h2⟩:=wW h0;have:=h.uniq h1 hi h2 hx;omega
variable {y:Int}
def same_iff (h:Dj g):(0<=eX g x/\eX g x=eX g y)↔aCA g x y:=by
 constructor
 ·rintro⟨h1,h2⟩;obtain⟨a1,a2⟩:=wW h1;obtain⟨b1,b2⟩:=wW (h2▸h1);rw[h2]at a1 a2;exact⟨_,aA b1,a2,b2⟩
 ·rintro⟨r,hr,hx,hy⟩;obtain⟨i,hi⟩:=dD hr;rw[am0 h hi hx,am0 h hi hy];omega
def aeF (h:eqG g x y):eqG g y x:=by
 rcases h with h|⟨r,hr,h1,h2⟩
 ·exact .inl h.symm
 ·exact .inr ⟨r,hr,h2,h1⟩
def CV (hd:Dj g){z:Int}(h:eqG g x y)(h':eqG g y z):eqG g x z:=by
 rcases h with rfl|⟨r,hr,h1,h2⟩
 ·exact h'
 ·rcases h' with rfl|⟨r',hr',h3,h4⟩
  ·exact .inr ⟨r,hr,h1,h2⟩
  ·obtain rfl:=hd.one hr hr' h2 h3;exact .inr ⟨r,hr,h1,h4⟩
def aaW (g:L2)(a b:Int):zB g a b=((List.range g.length).filter fun(i:Nat)=>decide ((i:Int)≠a/\(i:Int)≠b)).map (gat g):=by
 have h:∀n,loopN n [] (fun(i:Nat) o=>if(i:Int)≠a/\(i:Int)≠b then o++[gat g i]else o)=((List.range n).filter fun(i:Nat)=>decide ((i:Int)≠a/\(i:Int)≠b)).map (gat g):=by
  intro n
  induction n with
  |zero=>rfl
  |succ n ih=>
   rw[aM,ih,dY,fA,eB];by_cases hc:(n:Int)≠a/\(n:Int)≠b
   ·rw[if_pos hc];simp[hc]
   ·rw[if_neg hc];simp only[not_and,Decidable.not_not]at hc;simp;exact hc
 exact h g.length
def afI {a b:Int}:r∈zB g a b↔∃i:Nat,g[i]?=some r/\(i:Int)≠a/\(i:Int)≠b:=by
 rw[aaW,dG];constructor
 ·rintro⟨i,hi,rfl⟩;rw[dW,bB,decide_eq_true_eq]at hi;obtain⟨c,hc⟩:=aR hi.1;exact⟨i,by rw[BG hc];exact hc,hi.2⟩
 ·rintro⟨i,hi,h⟩;exact⟨i,by rw[dW,bB,decide_eq_true_eq];exact⟨dF hi,h⟩,BG hi⟩
def aFK (h:Dj g)(a b:Int):Dj (zB g a b):=by
 rw[aaW];refine yN.2 ((List.pairwise_lt_range.filter _).imp_of_mem fun{i j} hi hj hlt u hu hu'=> ?_);rw[dW,bB]at hi hj;obtain⟨c,hc⟩:=aR hi.1;obtain⟨d,hd⟩:=aR hj.1;rw[BG hc]at hu;rw[BG hd]at hu';have:=h.uniq hc hd hu hu';omega
def afT (g:L2)(x:Int):L1:=if 0<=eX g x then gat g (eX g x).toNat else[x]
def QC (h:Dj g):u∈afT g x↔eqG g u x:=by
 unfold afT;split
 ·next h0=>
  obtain⟨h1,h2⟩:=wW h0;constructor
  ·exact fun hu=> .inr ⟨_,aA h1,hu,h2⟩
  ·rintro(rfl|⟨r,hr,hu,hx⟩)
   ·exact h2
   ·rw[←h.one hr (aA h1) hx h2];exact hu
 ·next h0=>
  constructor
  ·intro hu;exact .inl (by simpa using hu)
  ·rintro(rfl|⟨r,hr,hu,hx⟩)
   ·simp
   ·exact absurd hx (UW h0 hr)
def az6 (g:L2)(x y:Int):oZ g x y=zB g (eX g x) (eX g y)++[if 0<=eX g x/\eX g x=eX g y then afT g x else afT g x++afT g y]:=by
 unfold oZ afT;split
 ·next h=>rw[if_pos h.1]
 ·rfl
def az7 (h:Dj g)(v:Ver):Dj (oZ g v.a v.b)/\∀u w,eqG (oZ g v.a v.b) u w↔aaN (eqG g) v u w:=by
 obtain⟨M,hM⟩:∃M,M=if 0<=eX g v.a/\eX g v.a=eX g v.b then afT g v.a else afT g v.a++afT g v.b:=⟨_,rfl⟩
 have hj:=az6 g v.a v.b;rw[←hM]at hj
 have hin:∀u,u∈M↔eqG g u v.a\/eqG g u v.b:=by
  intro u;rw[hM];split
  ·next hs=>
   rw[QC h];exact⟨.inl,fun hh=>hh.elim id fun h2=>CV h h2 (aeF (.inr ((same_iff h).1 hs)))⟩
  ·rw[k_List_mem_append,QC h,QC h]
 have hrest:∀(i:Nat) (r:L1),g[i]?=some r->(((i:Int)≠eX g v.a/\(i:Int)≠eX g v.b)↔∀u∈r,u∉M)\/r=[]:=by
  intro i r hi;by_cases hr:r=[]
  ·exact .inr hr
  ·left;constructor
   ·rintro⟨h1,h2⟩ u hu hm;rcases(hin u).1 hm with h3|h3
    ·have:=(QC h).2 h3;unfold afT at this;split at this
     ·next h0=>obtain⟨k1,_⟩:=wW h0;have:=h.uniq hi k1 hu this;omega
     ·next h0=>obtain rfl:u=v.a:=by simpa using this
               exact UW h0 (aA hi) hu
    ·have:=(QC h).2 h3;unfold afT at this;split at this
     ·next h0=>obtain⟨k1,_⟩:=wW h0;have:=h.uniq hi k1 hu this;omega
     ·next h0=>obtain rfl:u=v.b:=by simpa using this
               exact UW h0 (aA hi) hu
   ·intro hall;constructor
    ·intro e;have h0:0<=eX g v.a:=by omega
     obtain⟨k1,k2⟩:=wW h0;rw[←e,iB,hi]at k1;rw[←e,iB,←Option.some.inj k1]at k2;exact hall _ k2 ((hin _).2 (.inl (.inl rfl)))
    ·intro e;have h0:0<=eX g v.b:=by omega
     obtain⟨k1,k2⟩:=wW h0;rw[←e,iB,hi]at k1;rw[←e,iB,←Option.some.inj k1]at k2;exact hall _ k2 ((hin _).2 (.inr (.inl rfl)))
 have hdis:∀r∈zB g (eX g v.a) (eX g v.b),∀u∈r,u∉M:=by
  intro r hr u hu;obtain⟨i,hi,h1⟩:=afI.1 hr;rcases hrest i r hi with h2|rfl
  ·exact h2.1 h1 u hu
  ·simp at hu
 refine⟨?_,fun u w=> ?_⟩
 ·rw[hj];refine gM.2 ⟨aFK h _ _,by simp,fun r hr m hm=> ?_⟩;obtain rfl:m=M:=by simpa using hm
  exact hdis r hr
 ·constructor
  ·rintro(rfl|⟨r,hr,hu,hw⟩)
   ·exact .inl (.inl rfl)
   ·rw[hj,k_List_mem_append]at hr;rcases hr with hr|hr
    ·obtain⟨i,hi,_⟩:=afI.1 hr;exact .inl (.inr ⟨r,aA hi,hu,hw⟩)
    ·obtain rfl:r=M:=by simpa using hr
     rcases(hin u).1 hu with h1|h1<;>rcases(hin w).1 hw with h2|h2
     ·exact .inl (CV h h1 (aeF h2))
     ·exact .inr (.inl ⟨h1,h2⟩)
     ·exact .inr (.inr ⟨h1,h2⟩)
     ·exact .inl (CV h h1 (aeF h2))
  ·have hm:∀{u w},u∈M->w∈M->eqG (oZ g v.a v.b) u w:=fun hu hw=> .inr ⟨M,by rw[hj];simp,hu,hw⟩;rintro(h1|⟨h1,h2⟩|⟨h1,h2⟩)
   ·rcases h1 with rfl|⟨r,hr,hu,hw⟩
    ·exact .inl rfl
    ·by_cases hx:u∈M
     ·refine hm hx ((hin w).2 ?_);have hwu:eqG g w u:= .inr ⟨r,hr,hw,hu⟩;exact((hin u).1 hx).imp (CV h hwu) (CV h hwu)
     ·obtain⟨i,hi⟩:=dD hr;rcases hrest i r hi with h2|rfl
      ·refine .inr ⟨r,?_,hu,hw⟩;rw[hj,k_List_mem_append];refine .inl (afI.2 ⟨i,hi,h2.2 fun z hz hzM=>hx ((hin u).2 ?_)⟩);have huz:eqG g u z:= .inr ⟨r,hr,hu,hz⟩;exact((hin z).1 hzM).imp (CV h huz) (CV h huz)
      ·simp at hu
   ·exact hm ((hin u).2 (.inl h1)) ((hin w).2 (.inr h2))
   ·exact hm ((hin u).2 (.inr h1)) ((hin w).2 (.inl h2))
def zN (l:List Ver):L2:=l.foldl (fun g v=>oZ g v.a v.b) []
def X0:∀(l:List Ver) {g:L2}{E:Int->Int->Prop},Dj g->(∀u w,eqG g u w↔E u w)->Dj (l.foldl (fun g v=>oZ g v.a v.b) g)/\∀u w,eqG (l.foldl (fun g v=>oZ g v.a v.b) g) u w↔l.foldl aaN E u w
 |[],_,_,h,he=>⟨h,he⟩
 |v::l,g,E,h,he=>by
  obtain⟨h1,h2⟩:=az7 h v;refine X0 l h1 fun u w=> ?_;rw[h2];unfold aaN;simp only[he]
def ae8 (l:List Ver):Dj (zN l)/\∀u w,eqG (zN l) u w↔l.foldl aaN (fun x y=>x=y) u w:=X0 l (by simp) fun u w=>by simp[eqG,aCA]
def al1 {l ms:List Ver}(hv:∀v∈l,inT v.a/\inT v.b)(hm:vP l=ms)(hx:inT x)(hy:inT y)(hne:x≠y):at1 (kG l) x.toNat=at1 (kG l) y.toNat↔(0<=eX (zN ms) x/\eX (zN ms) x=eX (zN ms) y):=by
 rw[(aEJ hv).eq x y hx hy,hm,←(ae8 ms).2,same_iff (ae8 ms).1];exact⟨fun h=>h.resolve_left hne,.inr⟩
end Go.Pl
end
section
namespace Go
def jG:= @List.filter_eq_self
def nC:= @List.getElem_set
def oU:= @List.getLast?_eq_some_iff
def k_List_length_eq_zero_iff:= @List.length_eq_zero_iff
def nX:= @List.length_set
def kX:= @List.singleton_append
end Go
end
section
namespace Go.Pl
open Go.Dv
variable {x y:Int}
def Q0 (h:x<y):cmpI x y= -1:=if_pos h
def QZ (h:y<x):cmpI x y=1:=by unfold cmpI;rw[if_neg (by omega),if_pos h]
def xK (x:Int):cmpI x x=0:=by unfold cmpI;rw[if_neg (by omega),if_neg (by omega)]
def Q4 (u w:Ver):gX u w<=0↔(u.a<w.a\/u.a=w.a/\(u.b<w.b\/u.b=w.b/\(u.time<w.time\/u.time=w.time/\(u.same=true->w.same=true)))):=by
 unfold gX;rcases iA u.a w.a with h1|h1|h1
 ·rw[Q0 h1];simp[h1]
 ·rw[h1,xK];rcases iA u.b w.b with h2|h2|h2
  ·rw[Q0 h2];simp[h2]
  ·rw[h2,xK];rcases iA u.time w.time with h3|h3|h3
   ·rw[Q0 h3];simp[h3]
   ·rw[h3,xK];cases u.same<;>cases w.same<;>simp
   ·rw[QZ h3];simp;omega
  ·rw[QZ h2];simp;omega
 ·rw[QZ h1];simp;omega
def OQ (u w:Ver):gX u w<0↔¬gX w u<=0:=by
 rw[Q4];have h:=Q4 u w
 have h0:gX u w=0->u=w:=by
  unfold gX;rcases iA u.a w.a with h1|h1|h1
  ·rw[Q0 h1];simp
  ·rw[h1,xK];rcases iA u.b w.b with h2|h2|h2
   ·rw[Q0 h2];simp
   ·rw[h2,xK];rcases iA u.time w.time with h3|h3|h3
    ·rw[Q0 h3];simp
    ·rw[h3,xK];intro h4
     have h5:u.same=w.same:=by
      cases hu:u.same<;>cases hw:w.same<;>simp[hu,hw]at h4|-
     cases u;cases w;simp_all
    ·rw[QZ h3];simp
   ·rw[QZ h2];simp
  ·rw[QZ h1];simp
 constructor
 ·intro hlt hle;have h1:=h.1 (by omega)
  have:u.same=w.same:=by
   have e1:u.a=w.a:=by omega
   have e2:u.b=w.b:=by omega
   have e3:u.time=w.time:=by omega
   have a1:u.same=true->w.same=true:=by
    rcases h1 with h1|⟨_,h1|⟨_,h1|⟨_,h1⟩⟩⟩
    ·omega
    ·omega
    ·omega
    ·exact h1
   have a2:w.same=true->u.same=true:=by
    rcases hle with h1|⟨_,h1|⟨_,h1|⟨_,h1⟩⟩⟩
    ·omega
    ·omega
    ·omega
    ·exact h1
   cases hu:u.same<;>cases hw:w.same<;>simp_all
  have e1:u.a=w.a:=by omega
  have e2:u.b=w.b:=by omega
  have e3:u.time=w.time:=by omega
  have:gX u w=0:=by
   unfold gX;rw[e1,e2,e3,this,xK,xK,xK];simp
  omega
 ·intro hn
  have hle:gX u w<=0:=by
   rw[h];rcases iA u.a w.a with h1|h1|h1
   ·exact .inl h1
   ·refine .inr ⟨h1,?_⟩;rcases iA u.b w.b with h2|h2|h2
    ·exact .inl h2
    ·refine .inr ⟨h2,?_⟩;rcases iA u.time w.time with h3|h3|h3
     ·exact .inl h3
     ·refine .inr ⟨h3,fun hu=> ?_⟩;cases hw:w.same with
      |true=>rfl
      |false=>exact absurd (.inr ⟨h1.symm,.inr ⟨h2.symm,.inr ⟨h3.symm,fun e=>by rw[hw]at e;cases e⟩⟩⟩) hn
     ·exact absurd (.inr ⟨h1.symm,.inr ⟨h2.symm,.inl h3⟩⟩) hn
    ·exact absurd (.inr ⟨h1.symm,.inl h2⟩) hn
   ·exact absurd (.inl h1) hn
  have:gX u w≠0:=by
   intro e;have:=h0 e;subst this;exact hn (.inr ⟨rfl,.inr ⟨rfl,.inr ⟨rfl,id⟩⟩⟩)
  omega
variable {u v:Ver}
def ad1 {w:Ver}(h1:gX u v<=0)(h2:gX v w<=0):gX u w<=0:=by
 rw[Q4]at*
 rcases h1 with h1|⟨h1,h1'|⟨h1',h1''|⟨h1'',h1s⟩⟩⟩<;>rcases h2 with h2|⟨h2,h2'|⟨h2',h2''|⟨h2'',h2s⟩⟩⟩
 all_goals first
  |(left;omega)
  |(right;refine⟨by omega,?_⟩;left;omega)
  |(right;refine⟨by omega,?_⟩;right;refine⟨by omega,?_⟩;left;omega)
  |(right;refine⟨by omega,?_⟩;right;refine⟨by omega,?_⟩;right;exact⟨by omega,fun e=>h2s (h1s e)⟩)
def ahJ {w:Ver}(h1:gX u w<=0)(h2:gX w u<=0):u=w:=by
 have h3:=(Q4 u w).1 h1;have h4:=(Q4 w u).1 h2;have e1:u.a=w.a:=by omega
 have e2:u.b=w.b:=by omega
 have e3:u.time=w.time:=by omega
 have e4:u.same=w.same:=by
  have a1:u.same=true->w.same=true:=by
   rcases h3 with h1|⟨_,h1|⟨_,h1|⟨_,h1⟩⟩⟩<;>first|omega|exact h1
  have a2:w.same=true->u.same=true:=by
   rcases h4 with h1|⟨_,h1|⟨_,h1|⟨_,h1⟩⟩⟩<;>first|omega|exact h1
  cases hu:u.same<;>cases hw:w.same<;>simp_all
 cases u;cases w;simp_all
variable {α:Type}
def aj6 (p:α->Bool)(l:List α)(v:α):(kF p l v).Perm (v::l):=by
 unfold kF;rw[bH,kX];refine List.perm_middle.trans ?_;rw[dL]
def BH (p:α->α->Bool):∀(l t:List α),(l.foldl (fun out v=>kF (p v) out v) t).Perm (t++l)
 |[],t=>by simp
 |x::l,t=>by
  rw[k_List_foldl_cons];refine(BH p l _).trans ?_;refine((aj6 (p x) t x).append_right l).trans ?_;rw[fZ];exact List.perm_middle.symm
def F5 (l:List Ver):(iK l).Perm l:=by have:=BH tY l [];rwa [iV]at this
def I5 (l:List Ver):(uL l).Perm l:=by have:=BH DT l [];rwa [iV]at this
abbrev LQ (l:List Ver):Prop:=l.Pairwise fun a b=>gX a b<=0
def adK (p:α->Bool)(l:List α):(∀x∈l.drop (l.length-backs p l),p x=true)/\∀c,(l.take (l.length-backs p l)).getLast?=some c->p c=false:=by
 have hb:=alG p l
 have h1:l.drop (l.length-backs p l)=(l.reverse.takeWhile p).reverse:=by
  have:l.reverse.take (backs p l)=l.reverse.takeWhile p:=by
   have hp:=nY (p:=p) (l:=l.reverse);unfold backs;exact(List.prefix_iff_eq_take.1 hp).symm
  rw[←this,List.reverse_take];simp
 have h2:l.take (l.length-backs p l)=(l.reverse.dropWhile p).reverse:=by
  have h3:l=(l.reverse.dropWhile p).reverse++(l.reverse.takeWhile p).reverse:=by
   rw[←List.reverse_append,List.takeWhile_append_dropWhile,List.reverse_reverse]
  have h4:=dL (l.length-backs p l) l;rw[h1]at h4;exact qE (h4.trans h3)
 refine⟨fun x hx=> ?_,fun c hc=> ?_⟩
 ·rw[h1,List.mem_reverse]at hx;exact aI.1 List.all_takeWhile x hx
 ·rw[h2,List.getLast?_reverse]at hc;have:=List.head?_dropWhile_not p l.reverse;rw[hc]at this;simpa using this
variable {l:List Ver}
def ae6 (h:LQ l)(v:Ver):LQ (kF (tY v) l v):=by
 obtain⟨h1,h2⟩:=adK (tY v) l;unfold kF;generalize l.length-backs (tY v) l=k at h1 h2|-
 have hl:∀x∈l.take k,gX x v<=0:=by
  intro x hx
  obtain⟨c,hc⟩:∃c,(l.take k).getLast?=some c:=by
   cases hg:(l.take k).getLast? with
   |some c=>exact⟨c,rfl⟩
   |none=>rw[List.getLast?_eq_none_iff]at hg;rw[hg]at hx;cases hx
  have h3:=h2 c hc;simp only[tY,decide_eq_false_iff_not]at h3;obtain⟨t,ht⟩:=oU.1 hc;have hs:LQ (l.take k):=h.sublist (sU _ _);rw[ht]at hx hs;rcases k_List_mem_append.1 hx with hx|hx
  ·exact ad1 ((gM.1 hs).2.2 x hx c (by simp)) (by omega)
  ·obtain rfl:x=c:=by simpa using hx
   omega
 have hr:∀x∈l.drop k,gX v x<=0:=by
  intro x hx;have h3:=h1 x hx;simp only[tY,decide_eq_true_eq]at h3;have:=(OQ v x).2 (by omega);omega
 rw[bH,kX];have hs:=h;rw[←List.take_append_drop k l]at hs;obtain⟨a1,a2,a3⟩:=gM.1 hs;refine gM.2 ⟨a1,dX.2 ⟨hr,a2⟩,fun x hx y hy=> ?_⟩;rcases aW.1 hy with rfl|hy
 ·exact hl x hx
 ·exact a3 x hx y hy
def IQ (l:List Ver):LQ (iK l):=by
 have key:∀(l t:List Ver),LQ t->LQ (l.foldl (fun out v=>kF (tY v) out v) t):=by
  intro l
  induction l with
  |nil=>exact fun t h=>h
  |cons v l ih=>exact fun t h=>ih _ (ae6 h v)
 exact key l [] List.Pairwise.nil
def ar8 {a b:List Ver}(h:a.Perm b):iK a=iK b:=
 List.Perm.eq_of_pairwise (le:=fun u w=>gX u w<=0) (fun u w _ _=>ahJ) (IQ a) (IQ b) ((F5 a).trans (h.trans (F5 b).symm))
def ap0 {R:α->α->Bool}(ht:∀a b c,R a b=true->R b c=true->R a c=true):∀{l:List α},adj R l=true->l.Pairwise fun a b=>R a b=true
 |[],_=>List.Pairwise.nil
 |[a],_=>by simp
 |a::b::l,h=>by
  simp only[adj,k_Bool_and_eq_true]at h;have ih:=ap0 ht h.2;refine dX.2 ⟨fun c hc=> ?_,ih⟩;rcases aW.1 hc with rfl|hc
  ·exact h.1
  ·exact ht _ _ _ h.1 ((dX.1 ih).1 c hc)
def aHV {R:α->α->Bool}{l:List α}(h:l.Pairwise fun a b=>R a b=true):adj R l=true:=by
 rw[acL];intro i a b ha hb;have l1:=dF ha;have l2:=dF hb;rw[aB l1]at ha;rw[aB l2]at hb;rw[←Option.some.inj ha,←Option.some.inj hb];exact dQ.1 h i (i+1) l1 l2 (by omega)
def LW (h:lC l=true):(∀v∈l,fQ v=true)/\(l.Pairwise fun a b=>gX a b<0)/\l.length<=8:=by
 simp only[lC,k_Bool_and_eq_true,decide_eq_true_eq,aI]at h;refine⟨h.1.1,?_,h.2⟩
 have:=ap0 (R:=fun a b=>decide (gX a b<0)) (fun a b c h1 h2=>by
  simp only[decide_eq_true_eq]at h1 h2|-
  rw[OQ]at h1 h2|-
  intro h3;have h4:gX b c<=0:=by have:=(OQ b c).2 h2;omega
  exact h1 (ad1 h4 h3)) h.1.2
 exact this.imp fun h=>by simpa using h
def rZ (h:fQ v=true):inT v.a/\inT v.b/\v.a<v.b:=by
 simp only[fQ,k_Bool_and_eq_true,decide_eq_true_eq]at h;unfold inT;omega
def ap4 (h1:∀v∈l,fQ v=true)(h2:LQ l)(h3:l.Nodup)(h4:l.length<=8):lC l=true:=by
 simp only[lC,k_Bool_and_eq_true,decide_eq_true_eq,aI];refine⟨⟨h1,aHV ?_⟩,h4⟩;refine(h2.and h3).imp fun{u w} ⟨a,b⟩=> ?_;simp only[decide_eq_true_eq];rw[OQ];exact fun hh=>b (ahJ a hh)
def ltK (u w:Ver):Prop:=u.a<w.a\/u.a=w.a/\u.b<w.b
structure aID (l:List Ver) (i:Nat) (o:List Ver):Prop where
 sub:∀u∈o,u∈l.take i
 asc:o.Pairwise ltK
 top:∀p,o[o.length-1]?=some p->∀w∈l.take i,¬ltK p w
def aF4 (h:lC l=true):∀i≤l.length,aID l i ((l.take i).foldl rF [])
 |0,_=>⟨by simp,by simp,by simp⟩
 |i+1,hi=>by
  have ih:=aF4 h i (by omega);obtain⟨c,hc⟩:=aR (l:=l) (i:=i)
  have hle:∀w∈l.take i,¬ltK c w:=by
   intro w hw hk;obtain⟨j,hj⟩:=dD hw;have hjl:j<i:=by have:=dF hj;simp at this;omega
   rw[bC,if_pos hjl]at hj;have l1:=dF hc;have l2:=dF hj;rw[aB l1]at hc;rw[aB l2]at hj;have:=dQ.1 (LW h).2.1 j i l2 l1 hjl;rw[k_Option_some_inj hc,k_Option_some_inj hj]at this;have h5:=(Q4 w c).1 (by omega);unfold ltK at hk;omega
  rw[fH rF [] hc];have hts:=dM hc;generalize(l.take i).foldl rF []=o at ih|-
  have hpush:(∀u∈o,ltK u c)->aID l (i+1) (o++[c]):=by
   intro hu;refine⟨fun u hm=> ?_,gM.2 ⟨ih.asc,by simp,fun u hu' w hw=> ?_⟩,fun p hp w hw=> ?_⟩
   ·rw[hts,k_List_mem_append];rcases k_List_mem_append.1 hm with hm|hm
    ·exact .inl (ih.sub u hm)
    ·exact .inr hm
   ·obtain rfl:w=c:=by simpa using hw
    exact hu u hu'
   ·have:p=c:=by simpa using hp.symm
    subst this;rw[hts,k_List_mem_append]at hw;rcases hw with hw|hw
    ·exact hle w hw
    ·obtain rfl:w=p:=by simpa using hw
     unfold ltK;omega
  unfold rF;split
  ·next hn=>
   have ho:o=[]:=by
    rw[List.getElem?_eq_none_iff]at hn;exact k_List_length_eq_zero_iff.1 (by omega)
   subst ho;exact hpush (by simp)
  ·next u hu=>
   have hum:u∈o:=aA hu;have hulen:=dF hu;have huc:=hle u (ih.sub u hum);split
   ·next hne=>
    refine hpush fun x hx=> ?_;have:=ih.top u hu x (ih.sub x hx);unfold ltK at*
    omega
   ·next hne=>
    have hk:u.a=c.a/\u.b=c.b:=by omega
    split
    ·refine⟨fun x hx=> ?_,?_,fun p hp w hw=> ?_⟩
     ·rw[hts,k_List_mem_append];rcases jJ hx with hx|rfl
      ·exact .inl (ih.sub x hx)
      ·exact .inr (by simp)
     ·rw[dQ];intro a b ha hb hab;rw[nX]at ha hb;have hp:=dQ.1 ih.asc a b ha hb hab;rw[nC,nC];have hul:o[o.length-1]=u:=by rw[aB hulen]at hu;exact k_Option_some_inj hu
      rw[if_neg (by omega)];split
      ·next e=>
       subst e;rw[hul]at hp;unfold ltK at*
       omega
      ·exact hp
     ·rw[nX,bE (by omega)]at hp;obtain rfl:=k_Option_some_inj hp;rw[hts,k_List_mem_append]at hw;rcases hw with hw|hw
      ·exact hle w hw
      ·obtain rfl:w=c:=by simpa using hw
       unfold ltK;omega
    ·refine⟨fun x hx=> ?_,ih.asc,fun p hp w hw=> ?_⟩
     ·rw[hts,k_List_mem_append];exact .inl (ih.sub x hx)
     ·rw[hts,k_List_mem_append]at hw;rcases hw with hw|hw
      ·exact ih.top p hp w hw
      ·obtain rfl:w=c:=by simpa using hw
       rw[hu]at hp;obtain rfl:=k_Option_some_inj hp;unfold ltK;omega
def aqE (h:lC l=true):(∀v∈iD l,fQ v=true)/\(iD l).Nodup:=by
 have hi:=aF4 h l.length (k_Nat_le_refl _);rw[bV]at hi;refine⟨fun v hv=>(LW h).1 v (by have:=hi.sub v hv;rwa [bV]at this),hi.asc.imp fun{u w} hk e=> ?_⟩;subst e;unfold ltK at hk;omega
def ad5 (l:List Ver):(iD l).length<=l.length:=by
 have:=F9 rF (fun t x=>by
  unfold rF;split
  ·simp
  ·split
   ·simp
   ·split<;>simp) l []
 simpa[iD]using this
def adW (l:List Ver):Bool:=l.any fun v=> !v.same&&decide (at1 (kG l) v.a.toNat=at1 (kG l) v.b.toNat)
def IV (st:List Ver×List Ver)(v:Ver):List Ver×List Ver:=if adW (st.1++[v])=true then(st.1,st.2++[v])else(st.1++[v],st.2)
def af9 (l:List Ver):List Ver×List Ver:=(uL (vP (iD l))).foldl IV (apart (iD l),[])
variable {C:List Ver}
def au3 {ms:List Ver}(hC:∀v∈C,v.same=false)(hm:∀v∈ms,v.same=true)(hv:∀v∈C++ms,fQ v=true):adW (C++ms)= !(C.all (CR (zN ms))):=by
 have hs:vP (C++ms)=ms:=by
  unfold vP;rw[fA,sG.2 (fun v h=>by simp[hC v h]),jG.2 hm];rfl
 have hin:∀v∈C++ms,inT v.a/\inT v.b:=fun v h=>⟨(rZ (hv v h)).1,(rZ (hv v h)).2.1⟩;unfold adW;generalize hL:C++ms=L at hs hin hv|-
 have h1:(L.any fun v=> !v.same&&decide (at1 (kG L) v.a.toNat=at1 (kG L) v.b.toNat))=C.any fun v=> !CR (zN ms) v:=by
  rw[bQ,dH,dH]
  have key:∀v∈L,(decide (at1 (kG L) v.a.toNat=at1 (kG L) v.b.toNat)=true↔(!CR (zN ms) v)=true):=by
   intro v h;have hvv:=rZ (hv v h);rw[decide_eq_true_eq,al1 hin hs hvv.1 hvv.2.1 (by omega)];simp[CR]
  constructor
  ·rintro⟨v,hm1,h2⟩;rw[k_Bool_and_eq_true]at h2;refine⟨v,?_,(key v hm1).1 h2.2⟩;rw[←hL]at hm1;rcases k_List_mem_append.1 hm1 with h3|h3
   ·exact h3
   ·rw[hm v h3]at h2;simp at h2
  ·rintro⟨v,hm1,h2⟩;have hm2:v∈L:=by rw[←hL];simp[hm1]
   exact⟨v,hm2,by rw[k_Bool_and_eq_true];exact⟨by rw[hC v hm1];rfl,(key v hm2).2 h2⟩⟩
 rw[h1,List.any_eq_not_all_not];simp
structure aJX (cur C open':List Ver) (s:L2×List Ver×List Ver) (st:List Ver×List Ver) (ms:List Ver):Prop where
 kept:st.1=C++ms
 grp:s.1=zN ms
 same:∀v∈ms,v.same=true
 perm:(st.1++st.2++open').Perm cur
 sort:iK s.2.1=iK st.1
 ref:s.2.2=st.2
def VF {cur:List Ver}(h8:cur.length<=8)(hval:∀v∈cur,fQ v=true)(hnd:cur.Nodup)(hC:∀v∈C,v.same=false):∀(open':List Ver),(∀v∈open',v.same=true)->∀{s:L2×List Ver×List Ver}{st:List Ver×List Ver}{ms:List Ver},aJX cur C open' s st ms->iK (open'.foldl (vQ C) s).2.1=iK (open'.foldl IV st).1/\(open'.foldl (vQ C) s).2.2=(open'.foldl IV st).2
 |[],_,s,st,ms,h=>⟨h.sort,h.ref⟩
 |v::rest,hsame,s,st,ms,h=>by
  rw[k_List_foldl_cons,k_List_foldl_cons];have hv:v.same=true:=hsame v (by simp)
  have hms:∀w∈ms++[v],w.same=true:=by
   intro w hw;rcases k_List_mem_append.1 hw with hw|hw
   ·exact h.same w hw
   ·obtain rfl:w=v:=by simpa using hw
    exact hv
  have hsub:∀w∈C++(ms++[v]),fQ w=true:=by
   intro w hw;refine hval w (h.perm.mem_iff.1 ?_);rw[h.kept];simp only[k_List_mem_append,aW,List.not_mem_nil,or_false]at hw|-
   rcases hw with hw|hw|hw
   ·exact .inl (.inl (.inl hw))
   ·exact .inl (.inl (.inr hw))
   ·exact .inr (.inl hw)
  have hcl:=au3 hC hms hsub;have hja:zN (ms++[v])=oZ s.1 v.a v.b:=by rw[h.grp,zN,mG];rfl
  rw[hja]at hcl;have hk1:st.1++[v]=C++(ms++[v]):=by rw[h.kept,bH]
  by_cases hc:C.all (CR (oZ s.1 v.a v.b))=true
  ·have e1:vQ C s v=(oZ s.1 v.a v.b,zS (iK s.2.1) v,s.2.2):=if_pos hc;have e2:IV st v=(st.1++[v],st.2):=if_neg (by rw[hk1,hcl,hc];simp);rw[e1,e2]
   have hp:(st.1++[v]++st.2++rest).Perm cur:=by
    refine List.Perm.trans ?_ h.perm;rw[bH,bH,bH];refine List.Perm.append_left _ ?_;rw[kX];exact List.perm_middle.symm
   refine VF h8 hval hnd hC rest (fun w hw=>hsame w (by simp[hw])) ⟨hk1,hja.symm,hms,hp,?_,h.ref⟩;have hS:(iK s.2.1).Perm st.1:=by rw[h.sort];exact F5 _
   have hlen:=hp.length_eq;simp only[aP,aS,jI]at hlen
   have hnd2:(st.1++[v]).Nodup:=by
    have:=hp.nodup_iff.2 hnd;rw[bH]at this;exact(mH.1 this).1
   have hmem:∀w∈iK s.2.1,fQ w=true:=fun w hw=>hsub w (by rw[←hk1,k_List_mem_append];exact .inl (hS.mem_iff.1 hw))
   have hok:GD (iK s.2.1) v=true:=by
    simp only[GD,k_Bool_and_eq_true,gF,decide_eq_true_eq];refine⟨⟨⟨ap4 hmem (IQ _) ?_ ?_,hsub v (by simp)⟩,?_⟩,?_⟩
    ·exact hS.nodup_iff.2 (mH.1 hnd2).1
    ·rw[hS.length_eq];omega
    ·rw[iC];intro w hw;have hw2:=hS.mem_iff.1 hw;have:=(mH.1 hnd2).2.2 w hw2 v (by simp);simpa using this
    ·rw[hS.length_eq];omega
   have hadd:zS (iK s.2.1) v=(iK s.2.1).take (adC (iK s.2.1) v)++[v]++(iK s.2.1).drop (adC (iK s.2.1) v):=if_pos hok;refine ar8 ?_;simp only;rw[hadd,bH,kX];refine List.perm_middle.trans ?_;rw[dL];refine(hS.cons v).trans ?_;have:=List.perm_append_comm (l₁:=[v]) (l₂:=st.1);simpa using this
  ·have e1:vQ C s v=(s.1,s.2.1,s.2.2++[v]):=if_neg hc;have e2:IV st v=(st.1,st.2++[v]):=if_pos (by rw[hk1,hcl,(by simpa using hc:C.all (CR (oZ s.1 v.a v.b))=false)];rfl);rw[e1,e2]
   have hp:(st.1++(st.2++[v])++rest).Perm cur:=by
    refine List.Perm.trans ?_ h.perm;simp[bH]
   exact VF h8 hval hnd hC rest (fun w hw=>hsame w (by simp[hw])) ⟨h.kept,h.grp,h.same,hp,h.sort,by rw[h.ref]⟩
def agA (h:lC l=true):iK (af9 l).1=sH l/\iK (af9 l).2=jV l:=by
 obtain⟨hval,hnd⟩:=aqE h
 have h8:(iD l).length<=8:=by
  have:=(LW h).2.2;have:=ad5 l;omega
 have hp:(apart (iD l)++uL (vP (iD l))).Perm (iD l):=by
  refine((I5 _).append_left _).trans ?_;refine List.perm_append_comm.trans ?_;exact List.filter_append_perm (fun v:Ver=>v.same) (iD l)
 have:=VF (cur:=iD l) (C:=apart (iD l)) h8 hval hnd (fun v hv=>by simpa using(dW.1 hv).2) (uL (vP (iD l))) (fun v hv=>(dW.1 ((I5 _).mem_iff.1 hv)).2) (s:=([],apart (iD l),[])) (st:=(apart (iD l),[])) (ms:=[]) ⟨by simp,rfl,by simp,by simpa using hp,rfl,rfl⟩;unfold sH jV JS af9;rw[this.1,this.2];exact⟨rfl,rfl⟩
end Go.Pl
end
section
namespace Go
def qH:= @List.find?_range_eq_some
end Go
end
section
namespace Go.Pl
open Go.Dv
def IL (f:Nat->Bool):Nat->Option Nat
 |0=>none
 |a+1=>if f a=true then some a else IL f a
variable {a:Nat}
def U9 {f:Nat->Bool}:∀{n:Nat},IL f n=some a↔a<n/\f a=true/\∀k,a<k->k<n->f k=false
 |0=>by simp[IL]
 |n+1=>by
  rw[IL];by_cases h:f n=true
  ·rw[if_pos h,aJ];constructor
   ·rintro rfl;exact⟨by omega,h,fun k h1 h2=>by omega⟩
   ·rintro⟨h1,h2,h3⟩;by_cases he:n=a
    ·exact he
    ·rw[h3 n (by omega) (by omega)]at h;cases h
  ·rw[if_neg h,U9];have hf:f n=false:=by simpa using h
   constructor
   ·rintro⟨h1,h2,h3⟩;refine⟨by omega,h2,fun k hk hkn=> ?_⟩;by_cases he:k=n
    ·rw[he];exact hf
    ·exact h3 k hk (by omega)
   ·rintro⟨h1,h2,h3⟩;refine⟨?_,h2,fun k hk hkn=>h3 k hk (by omega)⟩;by_cases he:a=n
    ·rw[he,hf]at h2;cases h2
    ·omega
def aa1 (o items:L1)(b a:Nat):Bool:=decide (at1 o (at1 items a).toNat=at1 o (at1 items b).toNat)
def MQ (o items:L1)(b:Nat):List Con:=match IL (aa1 o items b) b with
 |some a=>[⟨a,b,true⟩]
 |none=>[]
def BL (o items:L1)(n:Nat):List Con:=(List.range n).flatMap (MQ o items)
def al2 (kept:List Ver)(items:L1):List Con:=F7 (apart kept) items++BL (kG kept) items items.length
def agW (o items:L1)(n:Nat):BL o items (n+1)=BL o items n++MQ o items n:=by simp[BL,dY]
variable {l:L1}
def acM (h:l.Nodup){i k:Nat}(hi:i<l.length)(hk:k<l.length)(e:at1 l i=at1 l k):i=k:=by
 have h1:=aY hi;have h2:=aY hk;rw[aB hi]at h1;rw[aB hk]at h2;have h3:l[i]=l[k]:=by rw[k_Option_some_inj h1,k_Option_some_inj h2,e]
 rcases oJ i k with hlt|he|hlt
 ·exact absurd h3 (dQ.1 h i k hi hk hlt)
 ·exact he
 ·exact absurd h3.symm (dQ.1 h k i hk hi hlt)
def au7 {kept:List Ver}{items:L1}(hk:∀v∈kept,fQ v=true)(hi:∀x∈items,inT x)(hn:items.Nodup):(al2 kept items).Perm (nZ kept items):=by
 have hin:∀v∈kept,inT v.a/\inT v.b:=fun v h=>⟨(rZ (hk v h)).1,(rZ (hk v h)).2.1⟩;have hj:joined kept=zN (vP kept):=rfl
 have link:∀a b,a<items.length->b<items.length->a≠b->(aa1 (kG kept) items b a=true↔(0<=eX (joined kept) (at1 items a)/\eX (joined kept) (at1 items a)=eX (joined kept) (at1 items b))):=by
  intro a b ha hb hne;have h1:=hi _ (aA (aY ha));have h2:=hi _ (aA (aY hb));rw[aa1,decide_eq_true_eq,al1 hin rfl h1 h2 (fun e=>hne (acM hn ha hb e)),hj]
 have hmem:∀c,c∈BL (kG kept) items items.length↔c∈LM (joined kept) items:=by
  intro c;unfold BL LM;simp only[List.mem_flatMap,bB];constructor
  ·rintro⟨b,hb,hc⟩;unfold MQ at hc;split at hc
   ·next a ha=>
    obtain rfl:c=⟨a,b,true⟩:=by simpa using hc
    obtain⟨h1,h2,h3⟩:=U9.1 ha;have h4:=(link a b (by omega) hb (by omega)).1 h2;refine⟨a,by omega,?_⟩
    have h5:P9 (joined kept) items a=some b:=by
     unfold P9;rw[qH];refine⟨by simp;exact⟨h1,h4.2.symm⟩,by simpa using hb,fun k hkb=> ?_⟩;simp only[gF,kV,decide_eq_false_iff_not];by_cases hak:a<k
     ·right;intro e;have:=(link k b (by omega) hb (by omega)).2 ⟨by rw[e];exact h4.1,by rw[e];exact h4.2⟩;rw[h3 k hak hkb]at this;cases this
     ·left;exact hak
    unfold sV;rw[if_pos h4.1,h5];simp
   ·cases hc
  ·rintro⟨a,ha,hc⟩;unfold sV at hc;split at hc
   ·next h0=>
    split at hc
    ·next b hb=>
     obtain rfl:c=⟨a,b,true⟩:=by simpa using hc
     unfold P9 at hb;rw[qH]at hb;obtain⟨h1,h2,h3⟩:=hb;simp only[k_Bool_and_eq_true,decide_eq_true_eq]at h1;have hbl:b<items.length:=by simpa using h2
     refine⟨b,hbl,?_⟩
     have h5:IL (aa1 (kG kept) items b) b=some a:=by
      rw[U9];refine⟨h1.1,(link a b ha hbl (by omega)).2 ⟨h0,h1.2.symm⟩,fun k hak hkb=> ?_⟩;rw[jZ];intro hl;have h6:=(link k b (by omega) hbl (by omega)).1 hl;have h7:=h3 k hkb;simp only[gF,kV,decide_eq_false_iff_not]at h7;rcases h7 with h7|h7
      ·exact h7 hak
      ·exact h7 (by rw[h6.2,h1.2])
     unfold MQ;rw[h5];simp
    ·cases hc
   ·cases hc
 have hnd1:(BL (kG kept) items items.length).Nodup:=by
  refine List.pairwise_flatMap.2 ⟨fun b _=> ?_,List.pairwise_lt_range.imp fun{b b'} hlt x hx y hy=> ?_⟩
  ·unfold MQ;split<;>simp
  ·unfold MQ at hx hy;split at hx<;>split at hy
   ·obtain rfl:=k_List_mem_singleton.1 hx;obtain rfl:=k_List_mem_singleton.1 hy;intro e;have:=congrArg Con.b e;simp at this;omega
   all_goals simp at hx hy
 have hnd2:(LM (joined kept) items).Nodup:=by
  refine List.pairwise_flatMap.2 ⟨fun b _=> ?_,List.pairwise_lt_range.imp fun{b b'} hlt x hx y hy=> ?_⟩
  ·unfold sV;split
   ·split<;>simp
   ·simp
  ·unfold sV at hx hy;split at hx<;>split at hy
   ·split at hx<;>split at hy
    ·obtain rfl:=k_List_mem_singleton.1 hx;obtain rfl:=k_List_mem_singleton.1 hy;intro e;have:=congrArg Con.a e;simp at this;omega
    all_goals simp at hx hy
   all_goals simp at hx hy
 have hp:=(List.perm_ext_iff_of_nodup hnd1 hnd2).2 hmem;unfold al2 nZ;exact List.perm_append_comm.trans (hp.append_right _)
def gstep (c:Nat->Int->Bool)(v:Int)(k:Nat)(l:L1):L1:=if c k (at1 l k)=true then l.set k v else l
def ae3 (c:Nat->Int->Bool)(v:Int)(l:L1):∀j≤l.length,(loopN j l (gstep c v)).length=l.length/\∀k,k<l.length->at1 (loopN j l (gstep c v)) k=if k<j/\c k (at1 l k)=true then v else at1 l k
 |0,_=>⟨rfl,fun k hk=>by rw[loopN_zero,if_neg (by omega)]⟩
 |j+1,hj=>by
  obtain⟨h1,h2⟩:=ae3 c v l j (by omega);rw[aM];have h3:=h2 j (by omega);rw[if_neg (by omega)]at h3;generalize loopN j l (gstep c v)=o at h1 h2 h3|-
  unfold gstep;rw[h3];by_cases hc:c j (at1 l j)=true
  ·rw[if_pos hc];refine⟨by simp[h1],fun k hk=> ?_⟩;rw[zJ k (by omega),h2 k hk];by_cases hjk:j=k
   ·subst hjk;rw[if_pos rfl,if_pos ⟨by omega,hc⟩]
   ·rw[if_neg hjk];by_cases h4:k<j/\c k (at1 l k)=true
    ·rw[if_pos h4,if_pos ⟨by omega,h4.2⟩]
    ·rw[if_neg h4,if_neg (fun h5=>h4 ⟨by omega,h5.2⟩)]
  ·rw[if_neg hc];refine⟨h1,fun k hk=> ?_⟩;rw[h2 k hk];by_cases h4:k<j/\c k (at1 l k)=true
   ·rw[if_pos h4,if_pos ⟨by omega,h4.2⟩]
   ·rw[if_neg h4,if_neg];rintro⟨h5,h6⟩;by_cases hjk:k=j
    ·subst hjk;exact hc h6
    ·exact h4 ⟨by omega,h6⟩
def pvB (m:L2)(p:Nat)(k:Nat)(z:Int):Bool:=decide (0<at2 m p k)&&decide (z<0)
def aa6 (m:L2)(order:L1)(i:Nat)(l:L1):L1:=if 0<=at1 l (at1 order i).toNat then l else loopN m.length (l.set (at1 order i).toNat (at1 order i)) (gstep (pvB m (at1 order i).toNat) (at1 order i))
def aB0 (m:L2)(order:L1):L1:=loopN order.length (List.replicate m.length (-1)) (aa6 m order)
def PvR (order:L1)(n:Nat)(a b:L1):Prop:=a.length=n/\b.length=n/\∀k<n,(at1 a k= -1/\at1 b k= -1)\/(0<=at1 a k/\at1 a k<order.length/\at1 b k=at1 order (at1 a k).toNat)
def aw0 (m:L2)(p x:Int):zP m p x=gstep (fun k z=>decide (z<0/\((k:Int)=p\/at2 m p.toNat k>0))) x:=by
 funext k l;unfold zP gstep;simp only[decide_eq_true_eq]
variable {m:L2}{order:L1}
def aHU (hm:bR m=true)(ho:IA m.length order=true):∀j≤order.length,PvR order m.length (loopN j (List.replicate m.length (-1)) (pivOne m order)) (loopN j (List.replicate m.length (-1)) (aa6 m order)):=by
 obtain⟨hol,_,_,hnd,hrg⟩:=XY ho;intro j
 induction j with
 |zero=>
  refine fun _=>⟨by simp[loopN_zero],by simp[loopN_zero],fun k hk=> .inl ?_⟩;simp[loopN_zero,at1,aC,hk]
 |succ j ih=>
  intro hj;have hr:=ih (by omega);rw[aM,aM];generalize loopN j (List.replicate m.length (-1)) (pivOne m order)=a at hr|-
  generalize loopN j (List.replicate m.length (-1)) (aa6 m order)=b at hr|-
  obtain⟨ha,hb,h⟩:=hr;have hp:=hrg j (by omega);have hpl:(at1 order j).toNat<m.length:=by omega
  have hpp:=h _ hpl;unfold pivOne aa6
  have hsg:(0<=at1 a (at1 order j).toNat)↔(0<=at1 b (at1 order j).toNat):=by
   rcases hpp with⟨h1,h2⟩|⟨h1,h2,h3⟩
   ·omega
   ·have:=hrg (at1 a (at1 order j).toNat).toNat (by omega);omega
  by_cases h0:0<=at1 a (at1 order j).toNat
  ·rw[if_pos h0,if_pos (hsg.1 h0)];exact⟨ha,hb,h⟩
  ·rw[if_neg h0,if_neg (fun e=>h0 (hsg.2 e)),aw0];obtain⟨g1,g2⟩:=ae3 (fun k z=>decide (z<0/\((k:Int)=at1 order j\/at2 m (at1 order j).toNat k>0))) (j:Int) a m.length (by omega);obtain⟨g3,g4⟩:=ae3 (pvB m (at1 order j).toNat) (at1 order j) (b.set (at1 order j).toNat (at1 order j)) m.length (by simp[hb]);refine⟨by rw[g1,ha],by rw[g3];simp[hb],fun k hk=> ?_⟩;rw[g2 k (by omega),g4 k (by simp[hb,hk])];rw[zJ k (by omega)];have hk0:=h k hk
   have hd:at2 m (at1 order j).toNat (at1 order j).toNat=0:=by
    have:=hm;rw[ZV]at this;simp only[FM,k_Bool_and_eq_true,aI,bB,decide_eq_true_eq]at this;exact(this.1 _ hpl).1.2
   by_cases hkp:(at1 order j).toNat=k
   ·rw[if_pos hkp];have h5:at1 a k<0:=by rw[←hkp];omega
    rw[if_pos ⟨hk,by simp only[decide_eq_true_eq];exact⟨h5,.inl (by omega)⟩⟩];rw[if_neg (by rintro⟨_,h6⟩;simp only[pvB,k_Bool_and_eq_true,decide_eq_true_eq]at h6;omega)];right;refine⟨by omega,by omega,?_⟩;simp
   ·rw[if_neg hkp];have hkp':¬(k:Int)=at1 order j:=by omega
    by_cases hw:at1 a k<0/\at2 m (at1 order j).toNat k>0
    ·have hbk:at1 b k<0:=by
      rcases hk0 with h6|h6
      ·omega
      ·omega
     rw[if_pos ⟨hk,by simp only[decide_eq_true_eq];exact⟨hw.1,.inr hw.2⟩⟩,if_pos ⟨hk,by simp only[pvB,k_Bool_and_eq_true,decide_eq_true_eq];exact⟨hw.2,hbk⟩⟩];right;refine⟨by omega,by omega,by simp⟩
    ·rw[if_neg (by rintro⟨_,h6⟩;simp only[decide_eq_true_eq]at h6;exact hw ⟨h6.1,h6.2.resolve_left hkp'⟩)];rw[if_neg]
     ·exact hk0
     ·rintro⟨_,h6⟩;simp only[pvB,k_Bool_and_eq_true,decide_eq_true_eq]at h6;rcases hk0 with h7|⟨h7,h8,h9⟩
      ·exact hw ⟨by omega,h6.1⟩
      ·have:=hrg (at1 a k).toNat (by omega);omega
def aBZ (hm:bR m=true)(ho:IA m.length order=true):canon (aB0 m order)=kS m order:=by
 obtain⟨hol,_,_,hnd,hrg⟩:=XY ho;obtain⟨h1,h2,h3⟩:=aHU hm ho order.length (k_Nat_le_refl _);unfold kS ac2 aB0;refine(alW (by rw[h1,h2]) fun i k hi hk=> ?_).symm;rw[h1]at hi hk;have a:=h3 i hi;have b:=h3 k hk;rcases a with⟨a1,a2⟩|⟨a1,a2,a3⟩<;>rcases b with⟨b1,b2⟩|⟨b1,b2,b3⟩
 ·omega
 ·have:=hrg _ (show(at1 (loopN order.length (List.replicate m.length (-1)) (pivOne m order)) k).toNat<order.length by omega);omega
 ·have:=hrg _ (show(at1 (loopN order.length (List.replicate m.length (-1)) (pivOne m order)) i).toNat<order.length by omega);omega
 ·rw[a3,b3];constructor
  ·intro e;rw[e]
  ·intro e;have:=acM hnd (by omega) (by omega) e;omega
def arA {σ:Type}{n:Nat}{s:σ}{f:Nat->σ->σ}(h:∀i x,a<=i->i<n->f i x=x)(ha:a<=n):loopN n s f=loopN a s f:=by
 induction n with
 |zero=>obtain rfl:a=0:=by omega
        rfl
 |succ n ih=>
  by_cases he:a=n+1
  ·rw[he]
  ·rw[aM,h n _ (by omega) (by omega)];exact ih (fun i x h1 h2=>h i x h1 (by omega)) (by omega)
def mvGain (m:L2)(l:L1)(i k:Nat):Int:=dP m l-dP m (canon (l.set i k))
def IG (m:L2)(cs:List Con)(l:L1)(i k:Nat)(b:Mov):Mov:=if mvGain m l i k>b.gain/\nE cs (canon (l.set i k))=true then⟨i,k,mvGain m l i k⟩else b
def atP (m:L2)(cs:List Con)(l:L1)(i:Nat)(b:Mov):Mov:=loopN (CP l+2).toNat b (IG m cs l i)
def mvBest (m:L2)(cs:List Con)(l:L1):Mov:=loopN l.length ⟨0,0,0⟩ (atP m cs l)
def apR (h:gD l=true):CP l<l.length/\ -1<=CP l:=by
 have hr:=(isPart_iff.1 h).1;have hl:=(isPart_len h).1
 have key:∀j≤l.length, -1<=loopN j (-1) (fun i t=>max t (at1 l i))/\loopN j (-1) (fun i t=>max t (at1 l i))<(l.length:Int):=by
  intro j
  induction j with
  |zero=>intro _;rw[loopN_zero];omega
  |succ j ih=>
   intro hj;have:=ih (by omega);have:=axU hr j (by omega);rw[aM];omega
 have:=key l.length (k_Nat_le_refl _);unfold CP;omega
def TT (h:1<=l.length/\l.length<=8):gD (canon l)=true:=isPart_iff.2 ⟨KL l,by rw[pG];exact h.1,by rw[pG];exact h.2⟩
def LH (hm:bR m=true)(hp:gD l=true)(hl:l.length=m.length):wL m l=dP m l:=if_pos ⟨hm,hp,hl⟩
variable {cs:List Con}
def awF (hm:bR m=true)(hp:gD l=true)(hl:l.length=m.length)(hk:nE cs l=true):mvBest m cs l=mR m cs l:=by
 have hc:alV m cs l=true:=by
  unfold alV;rw[LH hm hp hl,am9 hp,hk];have:=kQ hm l;simp[this]
 have ht:=apR hp;have hpl:=isPart_len hp;unfold mvBest mR;rw[if_pos hc];refine xE fun i b hi=> ?_;unfold atP adM
 have h1:loopN (l.length+1) b (yF m cs l i)=loopN (CP l+2).toNat b (yF m cs l i):=by
  refine arA (fun k x h1 h2=> ?_) (by omega);unfold yF;rw[if_neg];rintro⟨h3,_⟩;simp only[yU,k_Bool_and_eq_true,decide_eq_true_eq]at h3;omega
 rw[h1];refine xE fun k b hk2=> ?_
 have hok:yU l i k=true:=by
  simp only[yU,k_Bool_and_eq_true,decide_eq_true_eq];exact⟨⟨hp,by omega⟩,by omega⟩
 have hmv:rW l i k=canon (l.set i k):=by
  unfold rW;rw[if_pos hok];simp
 have hcl:(canon (l.set i k)).length=l.length:=by rw[pG];simp
 have hcp:gD (canon (l.set i k))=true:=TT (by simp;omega)
 have hg:LA m l i k=mvGain m l i k:=by
  unfold LA mvGain;have:=kQ hm l;rw[LH hm hp hl,if_pos ⟨hok,this⟩,hmv,LH hm hcp (by omega)]
 unfold IG yF;rw[hg,hmv,am9 hcp];simp[hok]
def aiD :0<=(mvBest m cs l).gain/\(0<(mvBest m cs l).gain->0<=(mvBest m cs l).item/\(mvBest m cs l).item<l.length/\0<=(mvBest m cs l).block/\(mvBest m cs l).block<=CP l+1/\nE cs (canon (l.set (mvBest m cs l).item.toNat (mvBest m cs l).block))=true):=by
 refine loopN_inv (fun _ (b:Mov)=>0<=b.gain/\(0<b.gain->0<=b.item/\b.item<l.length/\0<=b.block/\b.block<=CP l+1/\nE cs (canon (l.set b.item.toNat b.block))=true)) ⟨by simp,by simp⟩ fun i b hi hb=> ?_;refine loopN_inv (fun _ (b:Mov)=>0<=b.gain/\(0<b.gain->0<=b.item/\b.item<l.length/\0<=b.block/\b.block<=CP l+1/\nE cs (canon (l.set b.item.toNat b.block))=true)) hb fun k b hk hb=> ?_;unfold IG;split
 ·next h=>exact⟨by simp only;omega,fun _=>⟨by simp only;omega,by simp only;omega,by simp only;omega,by simp only;omega,by simpa using h.2⟩⟩
 ·exact hb
def aq4 (hm:bR m=true)(hp:gD l=true)(hl:l.length=m.length)(hk:nE cs l=true)(f:Nat):rP m cs (f+1) l=if 0<(mvBest m cs l).gain then rP m cs f (canon (l.set (mvBest m cs l).item.toNat (mvBest m cs l).block))else l:=by
 rw[rP,←awF hm hp hl hk];obtain⟨h1,h2⟩:=aiD (m:=m) (cs:=cs) (l:=l);split
 ·next hg=>
  have h3:=h2 hg;congr 1;unfold rW;rw[if_pos];simp only[yU,k_Bool_and_eq_true,decide_eq_true_eq];exact⟨⟨hp,by omega⟩,by omega⟩
 ·rfl
end Go.Pl
end
section
namespace Go
def gZ:= @List.set_append_right
def cO:= @Nat.sub_self
end Go
end
section
namespace Go.Pl
open Go.Dv
variable {n:Nat}
def at5 {a b:L2}(ha:sq2 n a)(hb:sq2 n b)(h:∀i k,i<n->k<n->at2 a i k=at2 b i k):a=b:=by
 apply kC;intro i;by_cases hi:i<n
 ·rw[(sW ha hi).1,(sW hb hi).1];congr 1;refine ajE (by rw[(sW ha hi).2,(sW hb hi).2]) fun k hk=> ?_;rw[(sW ha hi).2]at hk;exact h i k hi hk
 ·rw[k_List_getElem__eq_none (by rw[ha.1];omega),k_List_getElem__eq_none (by rw[hb.1];omega)]
def wAt (l:List Rec)(rs:List (List Tst))(s:Sco)(i k:Nat):Int:=iY rs s (sN (recAt l i) (recAt l k))
def ajI (l:List Rec)(rs:List (List Tst))(s:Sco)(i k:Nat)(m:L2):L2:=set2 (set2 m i k (wAt l rs s i k)) k i (wAt l rs s i k)
def alR (l:List Rec)(rs:List (List Tst))(s:Sco)(i:Nat)(m:L2):L2:=loopN i m (ajI l rs s i)
def bwM (l:List Rec)(rs:List (List Tst))(s:Sco):L2:=loopN l.length (zeros l.length) (alR l rs s)
variable {i k:Nat}
def aIA (l:List Rec)(rs:List (List Tst))(s:Sco)(h:k<i):wAt l rs s i k=mD l rs s i k:=by
 unfold wAt mD;rw[if_neg (by omega),Nat.min_eq_right (by omega),Nat.max_eq_left (by omega),aqO]
variable {l:List Rec}{rs:List (List Tst)}{s:Sco}{m:L2}
def ajJ (h:sq2 n m)(hi:i<n)(hk:k<i):sq2 n (ajI l rs s i k m):=xW (xW h hi _) (by omega) _
def aIK (h:sq2 n m)(hi:i<n)(hk:k<=i):sq2 n (loopN k m (ajI l rs s i)):=loopN_inv (fun _ m=>sq2 n m) h fun j m hj hm=>ajJ hm hi (by omega)
def aGT (hi:i<=n):sq2 n (loopN i (zeros n) (alR l rs s)):=loopN_inv (fun _ m=>sq2 n m) (pM n) fun j m hj hm=>aIK hm (by omega) (k_Nat_le_refl _)
def aGS (l:List Rec)(rs:List (List Tst))(s:Sco):bwM l rs s=weights l rs s:=by
 have hw:sq2 l.length (weights l rs s):=⟨by simp[weights],fun r hr=>by
  unfold weights at hr;rw[dG]at hr;obtain⟨i,_,rfl⟩:=hr;simp[xZ]⟩
 refine at5 (aGT (k_Nat_le_refl _)) hw fun a b ha hb=> ?_;rw[VJ l rs s ha hb]
 have key:=loopN_inv (n:=l.length) (s:=zeros l.length) (f:=alR l rs s) (fun i m=>sq2 l.length m/\∀a b,a<l.length->b<l.length->at2 m a b=if a<i/\b<i then mD l rs s a b else 0) ⟨pM _,fun a b _ _=>by rw[KJ,if_neg (by omega)]⟩ fun i m hi ⟨h1,h2⟩=>by
  have h3:=loopN_inv (n:=i) (s:=m) (f:=ajI l rs s i) (fun k m'=>sq2 l.length m'/\∀a b,a<l.length->b<l.length->at2 m' a b=if(a<i/\b<i)\/(a=i/\b<k)\/(b=i/\a<k)then mD l rs s a b else 0) ⟨h1,fun a b ha hb=>by rw[h2 a b ha hb];by_cases hc:a<i/\b<i;(rw[if_pos hc,if_pos (.inl hc)]);rw[if_neg hc,if_neg (by omega)]⟩ fun k m' hk ⟨h4,h5⟩=>by
   refine⟨ajJ h4 hi hk,fun a b ha hb=> ?_⟩;unfold ajI;rw[EC (xW h4 hi _) (by omega) hi,EC h4 hi (by omega),h5 a b ha hb,aIA l rs s hk];by_cases c1:a=k/\b=i
   ·obtain⟨rfl,rfl⟩:=c1;rw[if_pos ⟨rfl,rfl⟩,if_pos (by omega),TL]
   ·rw[if_neg c1];by_cases c2:a=i/\b=k
    ·obtain⟨rfl,rfl⟩:=c2;rw[if_pos ⟨rfl,rfl⟩,if_pos (by omega)]
    ·rw[if_neg c2];by_cases c3:(a<i/\b<i)\/(a=i/\b<k)\/(b=i/\a<k)
     ·rw[if_pos c3,if_pos (by omega)]
     ·rw[if_neg c3,if_neg (by omega)]
  refine⟨h3.1,fun a b ha hb=> ?_⟩;rw[alR,h3.2 a b ha hb];by_cases c:a=i/\b=i
  ·obtain⟨rfl,rfl⟩:=c;rw[if_neg (by omega),if_pos (by omega)];simp[mD]
  ·by_cases c2:(a<i/\b<i)\/(a=i/\b<i)\/(b=i/\a<i)
   ·rw[if_pos c2,if_pos (by omega)]
   ·rw[if_neg c2,if_neg (by omega)]
 rw[bwM,key.2 a b ha hb,if_pos ⟨ha,hb⟩]
variable {j:Nat}
section
variable (x y:Str) (tr:Bool)
def edP (i k:Nat):L1:=edR x y tr i k++List.replicate (y.length+1-k) 0
def edT (i:Nat):L2:=(List.range i).map fun i=>edR x y tr i (y.length+1)
def edU (i k:Nat):L2:=edT x y tr i++edP x y tr i k::List.replicate (x.length-i) []
variable {x y tr}
def Q6 (i k:Nat):(edR x y tr i k).length=k:=by simp[edR]
def aDK (h:k<=y.length+1):(edP x y tr i k).length=y.length+1:=by simp[edP,Q6];omega
def acS (h:j<k:=by omega):(edR x y tr i k)[j]?=some (ed x y tr i j):=by simp[edR,h]
def aDJ (h:j<k):(edP x y tr i k)[j]?=some (ed x y tr i j):=by
 rw[edP,bA (by rw[Q6];exact h),acS h]
def aGX (h:k<=y.length):(edP x y tr i k)[k]?=some 0:=by
 rw[edP,aN (by rw[Q6];omega),Q6,cO,fF,if_pos (by omega)]
def aDL (h:k<=y.length):(edP x y tr i k).set k (ed x y tr i k)=edP x y tr i (k+1):=by
 obtain⟨d,hd⟩:∃d,y.length+1-k=d+1:=⟨y.length-k,by omega⟩;have hd2:y.length+1-(k+1)=d:=by omega
 rw[edP,edP,hd,hd2,gZ _ _ (by rw[Q6];omega),Q6,cO,fU,eF,edR,edR,dY,eB];simp
def D7 (i:Nat):(edT x y tr i).length=i:=by simp[edT]
def as4 (h:j<i):(edT x y tr i)[j]?=some (edR x y tr j (y.length+1)):=by simp[edT,h]
def aDN (h:j<i):(edU x y tr i k)[j]?=some (edR x y tr j (y.length+1)):=by
 rw[edU,bA (by rw[D7];exact h),as4 h]
def as5 (i k:Nat):(edU x y tr i k)[i]?=some (edP x y tr i k):=by
 rw[edU,aN (by rw[D7];omega),D7,cO];rfl
def aDP (i k:Nat)(r:L1):(edU x y tr i k).set i r=edT x y tr i++r::List.replicate (x.length-i) []:=by
 rw[edU,gZ _ _ (by rw[D7];omega),D7,cO];rfl
def ayY (i:Nat):edT x y tr (i+1)=edT x y tr i++[edR x y tr i (y.length+1)]:=by simp[edT,dY]
def aDI (i:Nat):edP x y tr i (y.length+1)=edR x y tr i (y.length+1):=by simp[edP]
end
section
variable {α:Type}
def kT (p:α->α->Bool)(l:List α):List α:=l.foldl (fun out v=>kF (p v) out v) []
def XW (out:List α)(v:α)(j:Nat):List α:=out.take j++v::out.drop j
def DX (p:α->α->Bool)(l:List α)(i j:Nat)(v:α):List α:=XW (kT p (l.take i)) v j++l.drop (i+1)
def av1 (p:α->α->Bool)(l:List α):(kT p l).length=l.length:=by have:=EA p l [];rwa [jI,bW]at this
def zV {p:α->α->Bool}{l:List α}(h:i<=l.length:=by omega):(kT p (l.take i)).length=i:=by rw[av1];simp;omega
def av0 (out:List α)(v:α):XW out v out.length=out++[v]:=by simp[XW]
def atZ {p:α->α->Bool}{l:List α}{v:α}(h:l[i]?=some v):DX p l i i v=kT p (l.take i)++l.drop i:=by
 have hi:=dF h;have hl:=zV (p:=p) (l:=l) (i:=i)
 have:XW (kT p (l.take i)) v i=kT p (l.take i)++[v]:=by
  have:=av0 (kT p (l.take i)) v
  rwa [hl]at this
 rw[DX,this,bH,aX hi];rw[aB hi]at h;rw[k_Option_some_inj h];rfl
def ao7 {p:α->α->Bool}{l:List α}{v:α}(hi:i<l.length)(hj:j<=i):(DX p l i j v)[j]?=some v:=by
 have hl:=zV (p:=p) (l:=l) (i:=i);rw[DX,XW,bH,aN (by simp;omega)];simp[hl,fP hj]
def aiZ {p:α->α->Bool}{l:List α}{v c:α}(hi:i<l.length)(hj:j<i)(hc:(kT p (l.take i))[j]?=some c):(DX p l i (j+1) v)[j]?=some c:=by
 have hl:=zV (p:=p) (l:=l) (i:=i);rw[DX,XW,bH,bA (by simp;omega),bC,if_pos (by omega),hc]
def aw8 {p:α->α->Bool}{l:List α}{v c:α}(hi:i<l.length)(hj:j<i)(hc:(kT p (l.take i))[j]?=some c):((DX p l i (j+1) v).set (j+1) c).set j v=DX p l i j v:=by
 have hl:=zV (p:=p) (l:=l) (i:=i);have h1:(kT p (l.take i)).take (j+1)=(kT p (l.take i)).take j++[c]:=dM hc
 have h2:(kT p (l.take i)).drop j=c::(kT p (l.take i)).drop (j+1):=by
  have hlt:=dF hc;rw[aX hlt];rw[aB hlt]at hc;rw[k_Option_some_inj hc]
 have h3:((kT p (l.take i)).take j).length=j:=by simp;omega
 rw[DX,DX,XW,XW,h1,h2];generalize(kT p (l.take i)).take j=A at h3|-
 generalize(kT p (l.take i)).drop (j+1)=B;subst h3;simp
def YS {p:α->α->Bool}{l:List α}{v:α}(h:l[i]?=some v)(hj:j<=i)(h1:∀k c,j<=k->(kT p (l.take i))[k]?=some c->p v c=true)(h2:j=0\/∃c,(kT p (l.take i))[j-1]?=some c/\p v c=false):DX p l i j v=kT p (l.take (i+1))++l.drop (i+1):=by
 have hi:=dF h;have hl:=zV (p:=p) (l:=l) (i:=i)
 have h3:kT p (l.take (i+1))=kF (p v) (kT p (l.take i)) v:=by
  rw[kT,fH _ _ h];rfl
 have h4:=OJ (p:=p v) (l:=kT p (l.take i)) (k:=j) (by omega) (fun k hk hlt=>h1 k _ hk (aB hlt)) h2;rw[h3,DX,XW,kF,h4];simp
end
def MB (f:Nat->Nat->Int)(i k:Nat)(m:L2):L2:=set2 m i k (f i k)
def V6 (n:Nat)(f:Nat->Nat->Int)(i:Nat)(m:L2):L2:=loopN n m (MB f i)
def ay5 (n:Nat)(f:Nat->Nat->Int):L2:=loopN n (zeros n) (V6 n f)
variable {f:Nat->Nat->Int}
def aqP (h:sq2 n m)(hi:i<n):sq2 n (loopN j m (MB f i)):=loopN_inv (fun _ m=>sq2 n m) h fun k m _ hm=>xW hm hi _
def aDU (hj:j<=n):sq2 n (loopN j (zeros n) (V6 n f)):=loopN_inv (fun _ m=>sq2 n m) (pM n) fun i m hi hm=>aqP hm (by omega)
def aDT {a b:Nat}(ha:a<n)(hb:b<n):at2 (ay5 n f) a b=f a b:=by
 have h:=loopN_inv (n:=n) (s:=zeros n) (f:=V6 n f) (fun i m=>sq2 n m/\∀a b,a<i->b<n->at2 m a b=f a b) ⟨pM n,fun a b h=>by omega⟩ fun i m hi ⟨h1,h2⟩=>by
  have h3:=loopN_inv (n:=n) (s:=m) (f:=MB f i) (fun k m'=>sq2 n m'/\(∀a b,a<i->b<n->at2 m' a b=f a b)/\∀b,b<k->at2 m' i b=f i b) ⟨h1,h2,fun b h=>by omega⟩ fun k m' hk ⟨h4,h5,h6⟩=>by
   refine⟨xW h4 hi _,fun a b ha hb=> ?_,fun b hb=> ?_⟩
   ·rw[MB,EC h4 hi hk,if_neg (by omega)];exact h5 a b ha hb
   ·rw[MB,EC h4 hi hk];by_cases e:b=k
    ·subst e;simp
    ·rw[if_neg (by omega)];exact h6 b (by omega)
  refine⟨h3.1,fun a b ha hb=> ?_⟩;by_cases e:a=i
  ·subst e;exact h3.2.2 b hb
  ·exact h3.2.1 a b (by omega) hb
 exact h.2 a b ha hb
def aCJ {items:L1}:ay5 items.length (fun i k=>at2 m (at1 items i).toNat (at1 items k).toNat)=kN m items:=by
 refine at5 (aDU (k_Nat_le_refl _)) ⟨by simp[kN],fun r hr=> ?_⟩ fun i k hi hk=> ?_
 ·unfold kN at hr;rw[dG]at hr;obtain⟨x,_,rfl⟩:=hr;simp
 ·show at2 (ay5 items.length _) i k=_;rw[aDT hi hk,ajF hi hk]
end Go.Pl
end
section
namespace Go
def xQ:= @Bool.not_false
def oG:= @List.isSuffixOf_iff_suffix
end Go
end
section
namespace Go.Pl
open Go.Dv
def aCX (c:UInt8)(s:Str):Str:=if s.getLast?=some c then s.dropLast else s
def aCY (c:UInt8)(s:Str):Lib.trimSuffix s [c]=aCX c s:=by
 unfold Lib.trimSuffix Lib.hasSuffix aCX;rcases List.eq_nil_or_concat s with rfl|⟨t,d,rfl⟩
 ·simp
 ·rw[List.concat_eq_append]
  have e:([c].isSuffixOf (t++[d]))=decide (c=d):=by
   by_cases h:c=d
   ·subst h;simp[oG]
   ·have h2:¬[c]<:+t++[d]:=fun hs=>h (by
     obtain⟨p,hp⟩:=hs;have:=congrArg List.getLast? hp;simpa using this)
    have:([c].isSuffixOf (t++[d]))≠true:=fun e=>h2 (oG.1 e);simp[h,this]
  rw[e];by_cases h:c=d
  ·subst h;simp
  ·rw[if_neg (by simpa using h),if_neg];simp only[List.getLast?_append,List.getLast?_singleton,Option.some_or,aJ];exact fun e=>h e.symm
def OU:∀s:Str,Lib.containsAny s [124,59]= !s.all vZ
 |[]=>rfl
 |b::l=>by
  have ih:=OU l;unfold Lib.containsAny at ih|-
  have hge:=Lib.indexAny_ge [124,59] l;unfold Lib.indexAny
  have hb:vZ b= !(decide (b=124)||decide (b=59)):=by
   unfold vZ;have e1:(b.toNat=124)↔b=124:=⟨fun h=>k_UInt8_toNat_inj.1 h,fun h=>by rw[h];rfl⟩;have e2:(b.toNat=59)↔b=59:=⟨fun h=>k_UInt8_toNat_inj.1 h,fun h=>by rw[h];rfl⟩;simp only[e1,e2]
  simp only[vJ,hb];by_cases h:b=124\/b=59
  ·rw[if_pos (by simpa using h)];rcases h with h|h<;>simp[h]
  ·have h':b≠124/\b≠59:=⟨fun e=>h (.inl e),fun e=>h (.inr e)⟩;rw[if_neg (by simpa using h')];simp only[h'.1,h'.2,decide_false,Bool.or_self,xQ,eZ];rw[←ih];split
   ·rename_i h1;have:Lib.indexAny l [124,59]= -1:=by simpa using h1
    rw[this]
   ·rename_i h1;have:Lib.indexAny l [124,59]≠ -1:=by simpa using h1
    simp;omega
def bef (c:UInt8)(s:Str):Str:=s.takeWhile fun d=>decide (d≠c)
def aft (c:UInt8)(s:Str):Str:=(s.dropWhile fun d=>decide (d≠c)).drop 1
def XV (c:UInt8):∀s:Str,Lib.indexByte s c=if c∈s then((s.takeWhile fun d=>decide (d≠c)).length:Int)else -1
 |[]=>rfl
 |b::l=>by
  unfold Lib.indexByte;rw[XV c l];by_cases h:b=c
  ·subst h;simp
  ·have hb:¬(b==c)=true:=by simpa using h
   have hmem:c∈b::l↔c∈l:=⟨fun e=>(aW.1 e).resolve_left (fun e=>h e.symm),fun e=>aV _ e⟩;rw[if_neg hb,List.takeWhile_cons_of_pos (by simpa using h)];by_cases hm:c∈l
   ·rw[if_pos hm,if_pos (hmem.2 hm),if_neg (by rw[beq_iff_eq];omega),aS];omega
   ·rw[if_neg hm,if_neg (fun e=>hm (hmem.1 e))];rfl
def Y4 {c:UInt8}:∀{s:Str},c∈s->s=bef c s++c::aft c s/\c∉bef c s
 |[],h=>by cases h
 |d::s,h=>by
  by_cases hd:d=c
  ·subst hd;simp[bef,aft]
  ·have ih:=Y4 (s:=s) ((aW.1 h).resolve_left (fun e=>hd e.symm));unfold bef aft at ih|-
   rw[List.takeWhile_cons_of_pos (by simpa using hd),List.dropWhile_cons_of_pos (by simpa using hd)];refine⟨by rw[fZ,←ih.1],fun hm=> ?_⟩;rcases aW.1 hm with e|hm
   ·exact hd e.symm
   ·exact ih.2 hm
variable {c:UInt8}{s:Str}
def aCP (h:c∈s):s.take (s.takeWhile fun d=>decide (d≠c)).length=bef c s/\s.drop ((s.takeWhile fun d=>decide (d≠c)).length+1)=aft c s:=by
 have hs:=(Y4 h).1;have hb:(s.takeWhile fun d=>decide (d≠c))=bef c s:=rfl;rw[hb];constructor
 ·conv=>lhs;rw[hs]
  rw[show bef c (bef c s++c::aft c s)=bef c s by rw[←hs]];simp
 ·conv=>lhs;rw[hs]
  rw[show bef c (bef c s++c::aft c s)=bef c s by rw[←hs],qF,List.drop_of_length_le (by omega),show(bef c s).length+1-(bef c s).length=1 by omega];simp
def YL (c:UInt8):∀(k:Nat) (s:Str),s.count c=k->Lib.replaceK [c] [] k s=s.filter fun d=> !decide (d=c)
 |0,s,h=>by
  have hm:c∉s:=List.count_eq_zero.1 h;unfold Lib.replaceK;symm;rw[jG];intro d hd;simp;rintro rfl;exact hm hd
 |k+1,s,h=>by
  have hm:c∈s:=List.count_pos_iff.1 (by omega);have ht:=aCP hm;have hs:=Y4 hm;have h2:(bef c s++c::aft c s).count c=k+1:=by rw[←hs.1];exact h
  rw[List.count_append,List.count_eq_zero.2 hs.2,List.count_cons_self]at h2;unfold Lib.replaceK;rw[Lib.index_one,XV,if_pos hm,if_neg (by rw[beq_iff_eq];omega)];simp only[iB,eD,ht.1,ht.2,bZ];rw[YL c k (aft c s) (by omega)]
  conv=>rhs;rw[hs.1]
  rw[fA,qZ (by simp)];congr 1;symm;rw[jG];intro d hd;simp;rintro rfl;exact hs.2 hd
def af0 (c:UInt8)(s:Str):Lib.replaceAll s [c] []=s.filter fun d=> !decide (d=c):=by
 unfold Lib.replaceAll Lib.replace;rw[if_neg (by simp)];have:Lib.replaceNum s [c] (-1)=s.count c:=by unfold Lib.replaceNum;rw[if_pos (.inl (by omega)),Lib.count_one]
 rw[this,YL c _ s rfl]
def aCW (s:Str):ai6 s=aCX 32 s:=rfl
def isSp (x:Nat):Bool:=decide (x=32)
def ext(s:Str)(x:Nat×Nat):Str:=(s.drop x.1).take (x.2-x.1)
def aC0 {i:Nat}(h:s[i]?=some c)(hc:c.toNat<128):Utf8.decode (⟨s.toArray⟩:ByteArray) i=(c.toNat,1):=by
 have hi:=dF h;rw[aB hi]at h;unfold Utf8.decode;simp[ByteArray.get!,hi,k_Option_some_inj h,hc]
def VV (s:Str)(pos:Nat):Option Nat->Str
 |none=>[]
 |some a=>(s.drop a).take (pos-a)
def spans_eq (hs:∀c∈s,c.toNat<128):∀(f pos:Nat) (st:Option Nat) (acc:List (Nat×Nat)),s.length-pos<=f->pos<=s.length->(∀a,st=some a->a<pos)->
  (Lib.closeSpans ⟨s.toArray⟩ (Lib.spansFromP isSp ⟨s.toArray⟩ f pos st acc)).map (ext s)=acc.map (ext s)++(TY 32 (VV s pos st) (s.drop pos)).filter fun x=>decide (x≠[])
 |f,pos,st,acc,hf,hp,hst=>by
  have hsz:(⟨s.toArray⟩:ByteArray).size=s.length:=by simp[ByteArray.size]
  by_cases hlt:pos<s.length
  ·cases f with
   |zero=>omega
   |succ f=>
    obtain⟨c,hc⟩:∃c,s[pos]?=some c:=⟨s[pos],by simp[hlt]⟩;have hca:=hs c (aA hc);have hd:=aC0 hc hca;have hdr:s.drop pos=c::s.drop (pos+1):=by rw[aX hlt];rw[aB hlt]at hc;rw[k_Option_some_inj hc]
    have ih:=fun st acc h=>spans_eq hs f (pos+1) st acc (by omega) (by omega) h;unfold Lib.spansFromP;rw[if_pos (by rw[hsz];exact hlt),hd,hdr];unfold TY
    have hct:isSp c.toNat=true↔c=32:=by
     unfold isSp;rw[decide_eq_true_eq];exact⟨fun e=>k_UInt8_toNat_inj.1 (by simpa using e),fun e=>by rw[e];rfl⟩
    by_cases h32:c=32
    ·rw[if_pos (hct.2 h32),if_pos h32];cases st with
     |none=>
      simp only;rw[ih none acc (fun a h=>by cases h)];simp[VV]
     |some a=>
      have ha:=hst a rfl;simp only;rw[ih none _ (fun a h=>by cases h)]
      have hne:ext s (a,pos)≠[]:=by
       intro e;have:=congrArg List.length e;simp[ext]at this;omega
      have hcw:VV s pos (some a)=ext s (a,pos):=rfl;rw[hcw,mV (by simpa using hne)];simp[VV]
    ·rw[if_neg (fun e=>h32 (hct.1 e)),if_neg h32];cases st with
     |none=>
      simp only;rw[ih (some pos) acc (fun a h=>by cases h;omega)];have:VV s (pos+1) (some pos)=VV s pos none++[c]:=by simp[VV,hdr]
      rw[this]
     |some a=>
      have ha:=hst a rfl;simp only;rw[ih (some a) acc (fun b h=>by cases h;omega)]
      have:VV s (pos+1) (some a)=VV s pos (some a)++[c]:=by
       simp only[VV];rw[show pos+1-a=pos-a+1 by omega];exact dM (by rw[dV,show a+(pos-a)=pos by omega];exact hc)
      rw[this]
  ·obtain rfl:pos=s.length:=by omega
   have he:Lib.spansFromP isSp ⟨s.toArray⟩ f s.length st acc=(acc,st):=Lib.spansFromP_end _ _ _ _ _ _ (by rw[hsz];omega);rw[he,List.drop_length];cases st with
   |none=>simp[Lib.closeSpans,VV,TY]
   |some a=>
    have ha:=hst a rfl
    have hne:VV s s.length (some a)≠[]:=by
     intro e;have:=congrArg List.length e;simp[VV]at this;omega
    simp only[Lib.closeSpans,TY];rw[mV (by simpa using hne),hsz];simp[ext,VV]
def ahQ (hs:∀c∈s,c.toNat<128):(Lib.goFieldsP isSp ⟨s.toArray⟩).map (fun b=>b.data.toList)=M9 s:=by
 unfold Lib.goFieldsP Lib.spansOfP;have hsz:(⟨s.toArray⟩:ByteArray).size=s.length:=by simp[ByteArray.size]
 have:=spans_eq hs s.length 0 none [] (by omega) (by omega) (fun a h=>by cases h);rw[qI]
 have he:(fun b:ByteArray=>b.data.toList)∘(fun x:Nat×Nat=>(⟨s.toArray⟩:ByteArray).extract x.1 x.2)=ext s:=by
  funext x;simp only[Function.comp_apply,Lib.extract_data,ext]
 rw[he,hsz,this];rfl
end Go.Pl
end
section
namespace Go
def jU:= @Nat.pow_le_pow_right
end Go
end
section
namespace Go.Pl
open Go.Dv
def aDE (c:UInt8):Prop:=48<=c.toNat/\c.toNat<=57
def acR (m:Nat):aDE (UInt8.ofNat (48+m % 10))/\(UInt8.ofNat (48+m % 10)).toNat=48+m % 10:=by
 have h:(UInt8.ofNat (48+m % 10)).toNat=48+m % 10:=by rw[rU];omega
 exact⟨⟨by omega,by omega⟩,h⟩
def afK:∀(m:Nat),∀c∈lV m,aDE c:=by
 intro m
 induction m using Nat.strongRecOn with
 |ind m ih=>
  intro c hc;by_cases h0:m=0
  ·subst h0;rw[uJ]at hc;cases hc
  ·rw[uV h0]at hc;rcases k_List_mem_append.1 hc with hc|hc
   ·exact ih (m/10) (by omega) c hc
   ·obtain rfl:=k_List_mem_singleton.1 hc;exact(acR m).1
def aiL {st:Int×Int}{c:UInt8}(h:aDE c):JO st c=(st.1*10+(c.toNat-48),st.2+1):=if_pos h
def aa4 (m:Nat):(lV m).foldl JO (0,0)=((m:Int),((lV m).length:Int)):=by
 induction m using Nat.strongRecOn with
 |ind m ih=>
  by_cases h0:m=0
  ·subst h0;rw[uJ];rfl
  ·rw[uV h0,mG,ih (m/10) (by omega),k_List_foldl_cons,List.foldl_nil,aiL (acR m).1,(acR m).2];simp only[aP,aS,jI];congr 1
   ·omega
def aiE {m:Nat}(h:m≠0):lV m≠[]:=by rw[uV h];simp
variable {n:Int}
def awZ (h: -999999999<=n/\n<=999999999):nH (yH n)=true/\lW (yH n)=n:=by
 have hl:=MU n.natAbs 9 (by omega)
 have key:lW (yH n)=n/\(uC (yH n)).2<=9/\(yH n).length<=10:=by
  by_cases h0:n=0
  ·subst h0;decide
  ·by_cases hn:n<0
   ·have hf:yH n=45::lV n.natAbs:=by rw[yH,if_neg h0,if_pos hn];rfl
    have hp:uC (yH n)=((n.natAbs:Int),((lV n.natAbs).length:Int)):=by
     rw[uC,hf,k_List_take_of_length_le (by simp;omega),k_List_foldl_cons,show JO (0,0) 45=(0,0)from if_neg (by decide),aa4]
    refine⟨?_,by rw[hp];simp;omega,by rw[hf];simp;omega⟩;rw[lW,if_pos (by rw[hf];rfl),hp];simp only;omega
   ·have hf:yH n=lV n.natAbs:=by rw[yH,if_neg h0,if_neg hn];rfl
    have hp:uC (yH n)=((n.natAbs:Int),((lV n.natAbs).length:Int)):=by
     rw[uC,hf,k_List_take_of_length_le (by omega),aa4]
    refine⟨?_,by rw[hp];simp;omega,by rw[hf];omega⟩;rw[lW,if_neg,hp]
    ·simp only;omega
    ·rw[hf];intro h1;have:=afK _ _ (aA h1);exact absurd this.1 (by decide)
 refine⟨?_,key.1⟩;simp only[nH,k_Bool_and_eq_true,decide_eq_true_eq];exact⟨⟨key.2.1,key.2.2⟩,by rw[key.1]⟩
def FC:∀(s:Str) (st:Int×Int),0<=st.1->st.1<10^st.2.toNat->0<=st.2->0<=(s.foldl JO st).1/\(s.foldl JO st).1<10^(s.foldl JO st).2.toNat/\0<=(s.foldl JO st).2
 |[],st,h1,h2,h3=>⟨h1,h2,h3⟩
 |c::s,st,h1,h2,h3=>by
  rw[k_List_foldl_cons];by_cases hc:aDE c
  ·rw[aiL hc];refine FC s _ ?_ ?_ ?_
   ·have:=hc.1;simp only;omega
   ·have:=hc.2;simp only;rw[show(st.2+1).toNat=st.2.toNat+1 by omega,Int.pow_succ];have:=hc.1;omega
   ·simp only;omega
  ·rw[show JO st c=st from if_neg hc];exact FC s st h1 h2 h3
def awY {s:Str}(h:nH s=true): -999999999<=lW s/\lW s<=999999999:=by
 simp only[nH,k_Bool_and_eq_true,decide_eq_true_eq]at h;have hp:=FC (s.take 11) (0,0) (by simp) (by simp) (by simp);have hk:(uC s).2.toNat<=9:=by omega
 have h10:(10:Int)^(uC s).2.toNat<=1000000000:=by
  have h1:(10:Nat)^(uC s).2.toNat<=10^9:=jU (by omega) hk;have h2:((10^(uC s).2.toNat:Nat):Int)<=((10^9:Nat):Int):=by exact_mod_cast h1
  simpa using h2
 have h5:0<=(uC s).1/\(uC s).1<10^(uC s).2.toNat:=⟨hp.1,hp.2.1⟩;unfold lW;split<;>omega
def decDigits_eq (u:Nat):Lib.decDigits u=if u=0 then[48]else lV u:=by
 induction u using Nat.strongRecOn with
 |ind u ih=>
  rw[Lib.decDigits];split
  ·rename_i h;by_cases h0:u=0
   ·subst h0;rfl
   ·rw[if_neg h0,uV h0,show u/10=0 by omega,uJ,jT h];rfl
  ·rename_i h;rw[ih (u/10) (by omega),if_neg (by omega),if_neg (by omega),uV (m:=u)]
def aEA (n:Int):Lib.itoa n=yH n:=by
 unfold Lib.itoa yH;by_cases h0:n=0
 ·subst h0;rw[if_neg (by omega),if_pos rfl,decDigits_eq];rfl
 ·rw[if_neg h0];by_cases hn:n<0
  ·rw[if_pos hn,if_pos hn,decDigits_eq,if_neg (by omega)];rfl
  ·rw[if_neg hn,if_neg hn,decDigits_eq,if_neg (by omega),show n.toNat=n.natAbs by omega];rfl
def VY:∀(l:Str) (acc n:Nat) (m:Nat),Lib.decFrom acc l=some n->Lib.decFrom acc (l++[UInt8.ofNat (48+m % 10)])=some (n*10+m % 10)
 |[],acc,n,m,h=>by
  obtain rfl:acc=n:=by simpa[Lib.decFrom]using h
  have hd:=(acR m).2
  have hv:Lib.digitVal (UInt8.ofNat (48+m % 10))=some (m % 10):=by
   unfold Lib.digitVal;rw[hd,if_pos (by omega)];congr 1;omega
  simp only[iV,Lib.decFrom,hv]
 |c::l,acc,n,m,h=>by
  simp only[fZ,Lib.decFrom]at h|-
  cases hc:Lib.digitVal c with
  |none=>rw[hc]at h;cases h
  |some d=>rw[hc]at h;exact VY l _ n m h
def aeA (u:Nat):Lib.decFrom 0 (lV u)=some u:=by
 induction u using Nat.strongRecOn with
 |ind u ih=>
  by_cases h0:u=0
  ·subst h0;rw[uJ];rfl
  ·rw[uV h0,VY _ _ _ u (ih (u/10) (by omega))];congr 1;omega
def SY {u:Nat}(h:u≠0):Lib.decNat (lV u)=some u:=by
 unfold Lib.decNat;rw[if_neg (by simpa using aiE h),aeA]
def ax7 (h: -999999999<=n/\n<=999999999):Lib.atoiAll (yH n)= .ok n:=by
 have hl:=MU n.natAbs 9 (by omega)
 have hlen:(yH n).length<=18:=by
  unfold yH;split
  ·simp
  ·rw[aP];split<;>simp<;>omega
 rw[Lib.atoiAll_short _ hlen]
 have:Lib.atoi (yH n)=some n:=by
  by_cases h0:n=0
  ·subst h0;rfl
  ·by_cases hn:n<0
   ·have hf:yH n=45::lV n.natAbs:=by rw[yH,if_neg h0,if_pos hn];rfl
    rw[hf,Lib.atoi,if_pos (by rfl),SY (by omega),cB];congr 1;omega
   ·have hf:yH n=lV n.natAbs:=by rw[yH,if_neg h0,if_neg hn];rfl
    rw[hf];have hd:=SY (u:=n.natAbs) (by omega);cases hx:lV n.natAbs with
    |nil=>exact absurd hx (aiE (by omega))
    |cons c r=>
     have hc:=afK n.natAbs c (by rw[hx];simp);have h1:¬(c==45)=true:=fun e=>absurd ((show c=45 by simpa using e)▸hc).1 (by decide);have h2:¬(c==43)=true:=fun e=>absurd ((show c=43 by simpa using e)▸hc).1 (by decide);rw[Lib.atoi,if_neg h1,if_neg h2,←hx,hd,cB];congr 1;omega
 rw[this];rfl
def iG:L1->L1->Int
 |[],[]=>0
 |[],_::_=> -1
 |_::_,[]=>1
 |a::x,b::y=>if a<b then -1 else if b<a then 1 else iG x y
def TU:∀{a b:L1},iG a b<=0->iG b a<=0->a=b
 |[],[],_,_=>rfl
 |[],_::_,_,h=>by simp[iG]at h
 |_::_,[],h,_=>by simp[iG]at h
 |a::x,b::y,h,h'=>by
  simp only[iG]at h h'
  have hab:a=b:=by
   split at h
   ·rename_i h1;rw[if_neg (by omega),if_pos h1]at h';omega
   ·split at h
    ·omega
    ·omega
  subst hab;rw[if_neg (by omega),if_neg (by omega)]at h h';rw[TU h h']
def Q3:∀(a b:L1),iG a b<0↔0<iG b a
 |[],[]=>by simp[iG]
 |[],_::_=>by simp[iG]
 |_::_,[]=>by simp[iG]
 |a::x,b::y=>by
  have ih:=Q3 x y;simp only[iG];by_cases h1:a<b
  ·rw[if_pos h1,if_neg (by omega),if_pos h1];omega
  ·by_cases h2:b<a
   ·rw[if_neg h1,if_pos h2,if_pos h2];omega
   ·rw[if_neg h1,if_neg h2,if_neg h2,if_neg h1];exact ih
def aaK:∀{a b c:L1},iG a b<=0->iG b c<=0->iG a c<=0
 |[],_,[],_,_=>by simp[iG]
 |[],_,_::_,_,_=>by simp[iG]
 |_::_,[],_,h,_=>by simp[iG]at h
 |_::_,_::_,[],_,h=>by simp[iG]at h
 |a::x,b::y,c::z,h,h'=>by
  have ih:=aaK (a:=x) (b:=y) (c:=z);simp only[iG]at h h'|-
  split at h<;>split at h'<;>split<;>(try omega)<;>(try split at h)<;>(try split at h')<;>(try split)<;>(try omega);all_goals exact ih (by omega) (by omega)
def ahH:∀(p x y:L1),iG (p++x) (p++y)=iG x y
 |[],_,_=>rfl
 |a::p,x,y=>by
  show(if a<a then(-1:Int)else if a<a then 1 else iG (p++x) (p++y))=_;rw[if_neg (Int.lt_irrefl a),if_neg (Int.lt_irrefl a)];exact ahH p x y
variable {a b:L1}{i:Nat}
def TV (h:a.take i=b.take i):iG a b=iG (a.drop i) (b.drop i):=by
 have:=ahH (a.take i) (a.drop i) (b.drop i)
 rwa [dL,h,dL]at this
variable {c:Int}
def alY {d:Int}(h:a.take i=b.take i)(hc:a[i]?=some c)(hd:b[i]?=some d)(hn:c≠d):iG a b=if c<d then -1 else 1:=by
 obtain⟨h1,rfl⟩:=aD.1 hc;obtain⟨h2,rfl⟩:=aD.1 hd;rw[TV h,aX h1,aX h2];simp only[iG];split
 ·rfl
 ·rw[if_pos (by omega)]
def adY (h:a.take i=b.take i)(h1:i<a.length)(h2:b.length<=i):iG a b=1:=by
 rw[TV h,aX h1,bO h2];rfl
def ahI (h:a=b.take a.length):iG a b=if a.length<b.length then -1 else 0:=by
 rw[TV (i:=a.length) (by rw[bV];exact h),bO (k_Nat_le_refl a.length)];cases hd:b.drop a.length with
 |nil=>rw[if_neg (by have:=kR (i:=a.length) (l:=b);rw[hd]at this;simp at this;omega)];rfl
 |cons x l=>rw[if_pos (by have:=kR (i:=a.length) (l:=b);rw[hd]at this;simp at this;omega)];rfl
def take_same (h:a.take i=b.take i)(hc:a[i]?=some c)(hd:b[i]?=some c):a.take (i+1)=b.take (i+1):=by
 rw[yP,yP,h,hc,hd]
def AJ (l:L2):L2:=kT (fun v c=>decide (iG v c<0)) l
def wX (l:L2):(AJ l).Perm l:=by
 have:=BH (fun v c:L1=>decide (iG v c<0)) l [];rwa [iV]at this
def acD {l:L2}(h:l.Pairwise fun a b=>iG a b<=0)(v:L1):(kF (fun c=>decide (iG v c<0)) l v).Pairwise fun a b=>iG a b<=0:=by
 obtain⟨h1,h2⟩:=adK (fun c=>decide (iG v c<0)) l;unfold kF;generalize l.length-backs (fun c=>decide (iG v c<0)) l=k at h1 h2|-
 have hl:∀x∈l.take k,iG x v<=0:=by
  intro x hx
  obtain⟨c,hc⟩:∃c,(l.take k).getLast?=some c:=by
   cases hg:(l.take k).getLast? with
   |some c=>exact⟨c,rfl⟩
   |none=>rw[List.getLast?_eq_none_iff]at hg;rw[hg]at hx;cases hx
  have h3:=h2 c hc;simp only[decide_eq_false_iff_not]at h3;have h4:iG c v<=0:=by have:=Q3 v c;omega
  obtain⟨t,ht⟩:=oU.1 hc;have hs:(l.take k).Pairwise fun a b=>iG a b<=0:=h.sublist (sU _ _);rw[ht]at hx hs;rcases k_List_mem_append.1 hx with hx|hx
  ·exact aaK ((gM.1 hs).2.2 x hx c (by simp)) h4
  ·obtain rfl:x=c:=by simpa using hx
   exact h4
 have hr:∀x∈l.drop k,iG v x<=0:=by
  intro x hx;have h3:=h1 x hx;simp only[decide_eq_true_eq]at h3;omega
 rw[bH,kX];have hs:=h;rw[←List.take_append_drop k l]at hs;obtain⟨a1,a2,a3⟩:=gM.1 hs;refine gM.2 ⟨a1,dX.2 ⟨hr,a2⟩,fun x hx y hy=> ?_⟩;rcases aW.1 hy with rfl|hy
 ·exact hl x hx
 ·exact a3 x hx y hy
def XU (l:L2):(AJ l).Pairwise fun a b=>iG a b<=0:=by
 have key:∀(l t:L2),(t.Pairwise fun a b=>iG a b<=0)->(l.foldl (fun out v=>kF (fun c=>decide (iG v c<0)) out v) t).Pairwise fun a b=>iG a b<=0:=by
  intro l
  induction l with
  |nil=>exact fun t h=>h
  |cons v l ih=>exact fun t h=>ih _ (acD h v)
 exact key l [] List.Pairwise.nil
def azX {a b:L2}(h:a.Perm b):AJ a=AJ b:=
 List.Perm.eq_of_pairwise (le:=fun u w=>iG u w<=0) (fun u w _ _=>TU) (XU a) (XU b) ((wX a).trans (h.trans (wX b).symm))
def avY {a b:L2}:AJ a=AJ b↔a.Perm b:=
 ⟨fun h=>(wX a).symm.trans (h▸wX b),azX⟩
def aa5:∀{a b:L2},a.Nodup->a.length=b.length->(∀x∈a,x∈b)->a.Perm b
 |[],b,_,hl,_=>by cases b<;>simp_all
 |x::a,b,hn,hl,hm=>by
  have hx:=hm x (by simp);have hp:=List.perm_cons_erase hx;rw[List.nodup_cons]at hn;refine List.Perm.trans (List.Perm.cons x (aa5 hn.2 ?_ fun y hy=> ?_)) hp.symm
  ·rw[List.length_erase_of_mem hx];simp at hl;omega
  ·exact(List.mem_erase_of_ne (fun h:y=x=>hn.1 (by rw[←h];exact hy))).2 (hm y (by simp[hy]))
def ao5 {a b:L2}(hn:a.Nodup):AJ a=AJ b↔b.length=a.length/\∀x∈a,x∈b:=
 avY.trans ⟨fun h=>⟨h.length_eq.symm,fun x hx=>h.mem_iff.1 hx⟩,fun h=>aa5 hn h.1.symm h.2⟩
structure Ent where
 id:Int
 mem:L1
deriving instance DecidableEq,Inhabited for Ent
structure wP where
 cfg:Cfg
 sto:Sto
 ents:List Ent
 next:Int
 ref:List Ver
def P6 (all g:L1)(i:Nat):Bool:=inR (at1 g i) 1 399&&(decide (i=0)||decide (at1 g (i-1)<at1 g i))&& !(all.any fun y=>decide (at1 g i=y))
def ae1 (all g:L1):Bool:=(List.range g.length).all (P6 all g)&&decide (g.length≠0)
def CJ:L1->L2->Bool
 |all,[]=>decide (all.length<=8)
 |all,g::G=>ae1 all g&&CJ (all++g) G
def idB (e:Ent):Bool:=inR e.id 1 9999
def aj5 (a b:Ent):Bool:=decide (a.id<b.id)
def uK (l:List Ent):Bool:=l.all idB&&adj aj5 l&&CJ [] (l.map Ent.mem)
def ae2:∀(G:L2) {all:L1},8<all.length->CJ all G=false
 |[],all,h=>decide_eq_false (by omega)
 |g::G,all,h=>by rw[CJ,ae2 G (by rw[aP];omega),Bool.and_false]
def azV {all g:L1}(h:ae1 all g=true):g≠[]/\∀x∈g,x∉all:=by
 simp only[ae1,k_Bool_and_eq_true,aI,bB,decide_eq_true_eq]at h;refine⟨fun e=>h.2 (by rw[e];rfl),fun x hx hxa=> ?_⟩;obtain⟨i,hi⟩:=dD hx;have h1:=h.1 i (dF hi);simp only[P6,OG hi,k_Bool_and_eq_true,gF]at h1;have:=iC.1 h1.2 x hxa;simp at this
def amY:∀{G:L2}{all:L1},CJ all G=true->G.Nodup/\(∀g∈G,g≠[]/\∀x∈g,x∉all)/\all.length+G.length<=8
 |[],all,h=>⟨List.nodup_nil,by simp,by simpa[CJ]using h⟩
 |g::G,all,h=>by
  rw[CJ,k_Bool_and_eq_true]at h;obtain⟨h1,h2,h3⟩:=amY h.2;obtain⟨h4,h5⟩:=azV h.1;refine⟨List.nodup_cons.2 ⟨fun hg=> ?_,h1⟩,fun k hk=> ?_,?_⟩
  ·obtain⟨x,hx⟩:=List.exists_mem_of_ne_nil g h4;exact(h2 g hg).2 x hx (by simp[hx])
  ·rcases aW.1 hk with rfl|hk
   ·exact⟨h4,h5⟩
   ·exact⟨(h2 k hk).1,fun x hx hxa=>(h2 k hk).2 x hx (by simp[hxa])⟩
  ·have:=kJ.2 h4;rw[aP]at h3;simp only[aS];omega
def adG {l:List Ent}(h:uK l=true):(l.map Ent.mem).Nodup/\l.length<=8:=by
 simp only[uK,k_Bool_and_eq_true]at h;obtain⟨h1,_,h3⟩:=amY h.2;exact⟨h1,by simpa using h3⟩
def adZ:∀a:L1,iG a a=0
 |[]=>rfl
 |a::x=>by rw[iG,if_neg (by omega),if_neg (by omega),adZ x]
def aqB :iG a b=0↔a=b:=
 ⟨fun h=>TU (by omega) (by have:=Q3 b a;have:=Q3 a b;omega),fun h=>by rw[h,adZ]⟩
def aAN (g:L2)(e:Ent):Bool:=g.any fun y=>decide (y=e.mem)
def entOk (g:L2)(n:Int)(e:Ent):Bool:=aAN g e&&decide (e.id<n)
def aCM {E:List Ent}(g:L2)(n:Int)(h:uK E=true):(decide (g.length=E.length)&&E.all (entOk g n))=(!(E.any fun e=>decide (n<=e.id))&&decide (AJ (E.map Ent.mem)=AJ g)):=by
 rw[bQ];simp only[k_Bool_and_eq_true,decide_eq_true_eq,gF,iC,aI,entOk,aAN,dH,ao5 (adG h).1,aK,dG];constructor
 ·rintro⟨h1,h2⟩;exact⟨fun e he=>by have:=(h2 e he).2;omega,h1,by rintro _ ⟨e,he,rfl⟩;obtain⟨y,hy,rfl⟩:=(h2 e he).1;exact hy⟩
 ·rintro⟨h1,h2,h3⟩;exact⟨h2,fun e he=>⟨⟨_,h3 _ ⟨e,he,rfl⟩,rfl⟩,by have:=h1 e he;omega⟩⟩
end Go.Pl
end
section
namespace Go.Er
open Go.ChangeShapes Go.WideShapes Go.ChangeAt Go.RowKit
variable {P:Program}{W:World}
section
variable {H:Type}{enc:TypeId×Value->H}
def ag5 (hl:laidOutB P=true){W':World}(hb:Below W.heap.size W W'):
  ∀{ts:List TypeId}{vs:List Value}{ds:List (DataW H)}{ps:List MemPlace},(∀t∈ts,P.readableRec t=true/\t<P.types.size)->
   DataW.TrodAll enc P W 0 (fun _=>true) true ts vs ds ps->DataW.TrodAll enc P W' 0 (fun b=>decide (b<W.heap.size)) true ts vs ds ps:=by
 intro ts
 induction ts with
 |nil=>
  intro vs ds ps _ h;cases vs<;>cases ds<;>simp_all[DataW.TrodAll]
 |cons t ts ih=>
  intro vs ds ps hr h;obtain⟨v,vs',d,ds',p,q,rfl,rfl,rfl,h0,h1⟩:=trodAll_cons h;have lt0:∀x∈p,x.block<W.heap.size:=by obtain⟨m,hm⟩:=h0;exact DataW.trod_lt m _ _ _ hm
  exact trodAll_cons_mk (Below.trod hl (hr t (by simp)).1 (hr t (by simp)).2 h0 hb lt0) (ih (fun t' h'=>hr t' (by simp[h'])) h1)
def trodAll_length {base:Nat}{sp:Nat->Bool}{hd:Bool}:
  ∀{ts:List TypeId}{vs:List Value}{ds:List (DataW H)}{ps:List MemPlace},DataW.TrodAll enc P W base sp hd ts vs ds ps->vs.length=ts.length/\ds.length=ts.length:=by
 intro ts
 induction ts with
 |nil=>intro vs ds ps h;cases vs<;>cases ds<;>simp_all[DataW.TrodAll]
 |cons t ts ih=>
  intro vs ds ps h;obtain⟨v,vs',d,ds',p,q,rfl,rfl,rfl,h0,h1⟩:=trodAll_cons h;have:=ih h1;simp[this]
end
abbrev Ext (w w':World):Prop:=Below w.heap.size w w'
def Ext.refl (w:World):Ext w w:=Below.refl _ _
def Ext.trans {a b c:World}(h:Ext a b)(k:Ext b c):Ext a c:=Below.trans h (k.mono h.size)
def Ext.alloc (w:World)(o:Obj):Ext w (w.alloc o):=(Below.refl _ _).alloc (k_Nat_le_refl _) o
def Ext.setCell' {a w:World}(h:Ext a w){p:Addr}(hp:a.heap.size<=p.block)(u:Value):Ext a (w.setCell p u):=Below.setCell h hp u
def Ext.cells {w1:World}(hb:Ext W w1):∀b o,b<W.heap.size->w1.cell? ⟨b,o,none⟩=W.cell? ⟨b,o,none⟩:=
 fun b o h=>Below.cell hb (p:=⟨b,o,none⟩) h
def Cells (w:World)(a:Option Addr)(cs:List Value):Prop:=
 ∀i,(h:i<cs.length)->∃b o,a=some ⟨b,o,none⟩/\w.cell? ⟨b,o+i,none⟩=some cs[i]
def Ints (w:World)(a:Option Addr)(l:L1):Prop:=
 ∀i,(h:i<l.length)->∃b o,a=some ⟨b,o,none⟩/\w.cell? ⟨b,o+i,none⟩=some (.int .i64 l[i])
variable {a:Option Addr}{l:L1}
def Ints.cells {w:World}(h:Ints w a l):Cells w a (l.map (.int .i64)):=by
 intro i hi;obtain⟨b,o,h1,h2⟩:=h i (by simpa using hi);exact⟨b,o,h1,by simpa using h2⟩
def Cells.ints {w:World}(h:Cells w a (l.map (.int .i64))):Ints w a l:=by
 intro i hi;obtain⟨b,o,h1,h2⟩:=h i (by simpa using hi);exact⟨b,o,h1,by simpa using h2⟩
variable {b o:Nat}
def lt_of_cell {w:World}{v:Value}(h:w.cell? ⟨b,o,none⟩=some v):b<w.heap.size:=
 World.block_lt_of_cell? w ⟨b,o,none⟩ h
variable {w':World}
def Cells.ext {w:World}{cs:List Value}(h:Cells w a cs)(e:Ext w w'):Cells w' a cs:=by
 intro i hi;obtain⟨b,o,h1,h2⟩:=h i hi;exact⟨b,o,h1,by rw[e.cells b _ (lt_of_cell h2)];exact h2⟩
def Ints.ext {w:World}(h:Ints w a l)(e:Ext w w'):Ints w' a l:=(h.cells.ext e).ints
def Own1 (w:World)(B:Nat)(e:TypeId)(v:Value)(cs:List Value):Prop:=w.ownsRow B e 1 v cs.length cs
def Own1.nil (w:World)(B:Nat)(e:TypeId):Own1 w B e (.slice none 0 0) []:=World.ownsRow_nil w B e 1
variable {B:Nat}
def Own1.ext {w:World}{e:TypeId}{v:Value}{cs:List Value}(h:Own1 w B e v cs)(hE:Ext w w'):Own1 w' B e v cs:=by
 refine⟨h.1,?_⟩;rcases h.2 with h2|⟨g,cap,cur,hv,hg,hh,r⟩
 ·exact Or.inl h2
 ·exact Or.inr ⟨g,cap,cur,hv,hg,by rw[hE.block g (bP.1 hh).1];exact hh,r⟩
def Own1.mono {w:World}{B':Nat}{e:TypeId}{v:Value}{cs:List Value}(h:Own1 w B e v cs)(hB:B'<=B):Own1 w B' e v cs:=by
 refine⟨h.1,?_⟩;rcases h.2 with h2|⟨g,cap,cur,hv,hg,r⟩
 ·exact Or.inl h2
 ·exact Or.inr ⟨g,cap,cur,hv,k_Nat_le_trans hB hg,r⟩
def Own1.alloc {w:World}{e:TypeId}{v:Value}{cs:List Value}(h:Own1 w B e v cs)(o:Obj):Own1 (w.alloc o) B e v cs:=h.ext (Ext.alloc w o)
def Own1.drewN {w:World}{e:TypeId}{v:Value}{cs:List Value}(h:Own1 w B e v cs)(n:Nat):Own1 (w.drewN n) B e v cs:=h
def Own1.slice {w:World}{e:TypeId}{v:Value}{cs:List Value}(h:Own1 w B e v cs):∃a cap,v= .slice a cs.length cap/\Cells w a cs/\(a=none->cs=[]):=by
 rcases h.2 with⟨rfl,hn⟩|⟨g,cap,cur,rfl,hg,hh,hn,hm,hs,ht⟩
 ·have:cs=[]:=bD hn;subst this;exact⟨none,0,rfl,fun i hi=>by simp at hi,fun _=>rfl⟩
 ·refine⟨some ⟨g,0,none⟩,cap,rfl,fun i hi=>⟨g,0,rfl,?_⟩,fun h=>by cases h⟩;have:=World.ownsRow.cellAt (w:=w) h i (by omega);rw[bW,this];simp[hi]
def Own1.ints {w:World}{e:TypeId}{v:Value}(h:Own1 w B e v (l.map (.int .i64))):∃a cap,v= .slice a l.length cap/\Ints w a l:=by
 obtain⟨a,cap,h1,h2,_⟩:=h.slice;exact⟨a,cap,by simpa using h1,h2.ints⟩
def Own1.set {w w0:World}{e:TypeId}{n cap:Nat}{cs:List Value}(h:Own1 w w0.heap.size e (.slice (some ⟨b,0,none⟩) n cap) cs)(hE:Ext w0 w)(j:Nat)(u:Value):
  Own1 (w.setCell ⟨b,j,none⟩ u) w0.heap.size e (.slice (some ⟨b,0,none⟩) n cap) (cs.set j u)/\Ext w0 (w.setCell ⟨b,j,none⟩ u):=by
 have hn:cs.length=n:=by
  rcases h.2 with⟨h',_⟩|⟨g',cap',cur,h',_⟩<;>simp at h';omega
 subst hn;have hs:=World.ownsRow.stored (w:=w) h j u;refine⟨?_,hE.setCell' (p:=⟨b,j,none⟩) (World.ownsRow.lt h b rfl).1 u⟩;unfold Own1;rw[nX];exact hs.1
def Own1.cellAt {w:World}{B:Nat}{e:TypeId}{b n cap:Nat}{cs:List Value}(h:Own1 w B e (.slice (some ⟨b,0,none⟩) n cap) cs)(j:Nat)(hj:j<cs.length):w.cell? ⟨b,j,none⟩=some cs[j]:=by
 have hn:cs.length=n:=by
  rcases h.2 with⟨h',_⟩|⟨g',cap',cur,h',_⟩<;>simp at h';omega
 subst hn;have:=World.ownsRow.cellAt (w:=w) h j (by omega);rw[this];simp[hj]
def Own1.kept {w:World}{e:TypeId}{v v2:Value}{cs:List Value}(h:Own1 w B e v2 cs)(hg:w.grownBy w' v.ownBlock)(hne:v2.ownBlock=none\/v2.ownBlock≠v.ownBlock):Own1 w' B e v2 cs:=
 World.ownsRow.kept h hg hne
def Apart (v v2:Value):Prop:=∀b,v.ownBlock=some b->v2.ownBlock≠some b
def Apart.symm {v v2:Value}(h:Apart v v2):Apart v2 v:=fun b h1 h2=>h b h2 h1
def Own1.lt {w:World}{e:TypeId}{v:Value}{cs:List Value}(h:Own1 w B e v cs)(hb:v.ownBlock=some b):b<w.heap.size:=(World.ownsRow.lt h b hb).2
def Own1.beside {w:World}{e:TypeId}{v v' v2:Value}{cs2:List Value}(h2:Own1 w B e v2 cs2) (hap:Apart v v2) (hg:w.grownBy w' v.ownBlock)
  (hb:(v'.ownBlock=v.ownBlock/\v.ownBlock≠none)\/v'.ownBlock=some w.heap.size):Own1 w' B e v2 cs2/\Apart v' v2:=by
 refine⟨h2.kept hg ?_,?_⟩
 ·cases h:v2.ownBlock with
  |none=>exact Or.inl rfl
  |some b=>
   right;intro h3;exact hap b h3.symm h
 ·intro b h3 h4;rcases hb with⟨h5,_⟩|h5
  ·exact hap b (h5▸h3) h4
  ·rw[h5]at h3;simp at h3;have:=h2.lt h4;omega
def Ext.at {w:World}(h:Ext w w'){v:Value}(hc:w.cell? ⟨b,o,none⟩=some v):w'.cell? ⟨b,o,none⟩=some v:=
 (h.cells b o (lt_of_cell hc)).trans hc
def Box (w:World)(b:Nat)(t:TypeId)(vs:Array Value):Prop:=w.heap[b]?=some (.cells vs t (0,0))
def Box.new (w:World)(t:TypeId)(vs:Array Value):Box (w.alloc (.cells vs t)) w.heap.size t vs:=heap_alloc_new w _
def Box.ext {w:World}{t:TypeId}{vs:Array Value}(h:Box w b t vs)(e:Ext w w'):Box w' b t vs:=by
 unfold Box at*
 rw[e.block b (bP.1 h).1];exact h
def Box.alloc {w:World}{t:TypeId}{vs:Array Value}(h:Box w b t vs)(o:Obj):Box (w.alloc o) b t vs:=h.ext (Ext.alloc w o)
def Box.lt {w:World}{t:TypeId}{vs:Array Value}(h:Box w b t vs):b<w.heap.size:=(bP.1 h).1
def Box.cell {w:World}{t:TypeId}{vs:Array Value}(h:Box w b t vs)(i:Nat):w.cell? ⟨b,i,none⟩=vs[i]?:=cell_of_row w b i vs t (0,0) h
def Box.free {w:World}{t:TypeId}{vs:Array Value}(h:Box w b t vs)(i:Nat):w.frozen? ⟨b,i,none⟩=false:=by
 unfold Box at h;simp[World.frozen?,h]
def Box.set {w:World}{t:TypeId}{vs:Array Value}(h:Box w b t vs)(i:Nat)(u:Value):Box (w.setCell ⟨b,i,none⟩ u) b t (vs.setIfInBounds i u):=by
 unfold Box at*
 exact heap_setCell_same w b i vs t u h
def Box.setOther {w:World}{c i:Nat}{t:TypeId}{vs:Array Value}(h:Box w b t vs)(hne:b≠c)(u:Value):Box (w.setCell ⟨c,i,none⟩ u) b t vs:=by
 unfold Box at*
 rw[heap_setCell_other w ⟨c,i,none⟩ b u hne];exact h
def Box.drewN {w:World}{t:TypeId}{vs:Array Value}(h:Box w b t vs)(n:Nat):Box (w.drewN n) b t vs:=h
end Go.Er
end
section
namespace Go
def iT:= @List.getElem_append_left
def lF:= @List.getElem_append_right
end Go
end
