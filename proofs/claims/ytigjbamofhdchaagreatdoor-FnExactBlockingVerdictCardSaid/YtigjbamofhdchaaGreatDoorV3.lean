/- Lemmas and walks that the law leans on, part 3. No condition. -/
import Derived.ChangeArms
import Derived.ChangeShapes
import Derived.Lib.SlicesCompact
import Derived.Sort.Walk0
import Derived.Lib.IndexAny
import Derived.Lib.Strings
import Derived.Lib.IndexMore
import Derived.Lib.Replace
import Derived.Lib.IndexBytes
import Derived.Lib.FieldsP
import Derived.Lib.AtoiTie
import Derived.OpenShut
import Derived.ShutString
import Derived.ChangeOld
import Derived.Carry
import Derived.SizedLaws
import Derived.Lib.Hide
import Derived.BigQuiet
import Derived.Deep.QuietTactic
import Derived.StillTailTactics
import Derived.Deep.RegionLaw
import Derived.JoinedTies
import Derived.KernelRfl
import Derived.Test.YtigjbamofhdchaaGreatDoorV2
set_option linter.unusedVariables false
set_option linter.defProp false
set_option linter.unusedSimpArgs false
set_option linter.unusedSectionVars false
set_option maxRecDepth 10000
set_option maxHeartbeats 1000000
section
namespace Go.Proofs.YtigjbamofhdchaaGreatDoor
open Go.Dv Go.Proofs.Tryz
def O9:L1:=[0,1,2,3,0,1,2, -1,0,2,2,4,5,5,0,1,2,6,2,3,0,1, -1,2,0,2]
def BG (w:World):Prop:=Lib.TabIs prog w "internal/strconv.uint64pow10" .u64 Lib.pow10Tab/\(∃tp p,w.var? prog "strconv.ErrSyntax" =some #[.iface tp p])/\(∃tp p,w.var? prog "strconv.ErrRange" =some #[.iface tp p])/\(∃m,w.cell? ⟨1,0,none⟩=some (.int .i64 m))/\w.var? prog "loop.example/g01923/impl.soundCodes" =some (O9.map fun k=>Value.int .i64 k).toArray
instance:kW:=⟨fun gl=>∀w:World,(∀p∈gl,w.heap[p.1]?=some p.2)->BG w⟩
def LA {w:World}{ow:Own}(h:Laid w ow):BG w:=by
 obtain⟨gl,h1,h2⟩:=h;exact h1 w fun p hp=>(h2 p hp).1
def T:TypeId->TyE:=azO [(1000062,0),(1000067,0),(1000108,0),(1000113,0),(1000118,0),(1000175,1000),(1000178,0),(1000179,0),(1000251,0),(1000279,0),(1000291,999),(1000293,999),(1000294,999),(1000341,999),(1000358,0)] [(3,⟨.int .i64,1,.one (.int .i64 0)⟩),
 (4,⟨.bool,1,.one (.bool false)⟩),
 (5,⟨.int .u8,1,.one (.int .u8 0)⟩),
 (9,⟨.str,1,.one (.string {data:= #[]})⟩),
 (22,⟨.sl 164,1,.sl (some 164) []⟩),
 (24,⟨.agg [(0,22)],1,.agg [.sl (some 164) []]⟩),
 (25,⟨.sl 3,1,.sl (some 3) []⟩),
 (27,⟨.agg [(0,25),(1,3)],2,.agg [.sl (some 3) [],.one (.int .i64 0)]⟩),
 (29,⟨.agg [(0,24),(1,27),(3,25)],4,.agg [.agg [.sl (some 164) []],.agg [.sl (some 3) [],.one (.int .i64 0)],.sl (some 3) []]⟩),
 (30,⟨.sl 123,1,.sl (some 123) []⟩),
 (31,⟨.sl 101,1,.sl (some 101) []⟩),
 (33,⟨.agg [(0,3),(1,30),(2,31)],3,.agg [.one (.int .i64 0),.sl (some 123) [],.sl (some 101) []]⟩),
 (34,⟨.sl 82,1,.sl (some 82) []⟩),
 (36,⟨.agg [(0,29),(4,33),(7,34),(8,3),(9,31)],10,.agg [.agg [.agg [.sl (some 164) []],.agg [.sl (some 3) [],.one (.int .i64 0)],.sl (some 3) []],.agg [.one (.int .i64 0),.sl (some 123) [],.sl (some 101) []],.sl (some 82) [],.one (.int .i64 0),.sl (some 101) []]⟩),
 (39,⟨.agg [(0,3),(1,3),(2,4),(3,3)],4,.agg [.one (.int .i64 0),.one (.int .i64 0),.one (.bool false),.one (.int .i64 0)]⟩),
 (42,⟨.sl 188,1,.sl (some 188) []⟩),
 (44,⟨.agg [(0,42)],1,.agg [.sl (some 188) []]⟩),
 (45,⟨.agg [(0,25),(1,3)],2,.agg [.sl (some 3) [],.one (.int .i64 0)]⟩),
 (47,⟨.agg [(0,44),(1,45),(3,25)],4,.agg [.agg [.sl (some 188) []],.agg [.sl (some 3) [],.one (.int .i64 0)],.sl (some 3) []]⟩),
 (48,⟨.sl 138,1,.sl (some 138) []⟩),
 (49,⟨.sl 39,1,.sl (some 39) []⟩),
 (51,⟨.agg [(0,3),(1,48),(2,49)],3,.agg [.one (.int .i64 0),.sl (some 138) [],.sl (some 39) []]⟩),
 (52,⟨.sl 89,1,.sl (some 89) []⟩),
 (54,⟨.agg [(0,47),(4,51),(7,52),(8,3),(9,49)],10,.agg [.agg [.agg [.sl (some 188) []],.agg [.sl (some 3) [],.one (.int .i64 0)],.sl (some 3) []],.agg [.one (.int .i64 0),.sl (some 138) [],.sl (some 39) []],.sl (some 89) [],.one (.int .i64 0),.sl (some 39) []]⟩),
 (82,⟨.agg [(0,3),(1,25)],2,.agg [.one (.int .i64 0),.sl (some 3) []]⟩),
 (83,⟨.sl 25,1,.sl (some 25) []⟩),
 (89,⟨.agg [(0,3),(1,25)],2,.agg [.one (.int .i64 0),.sl (some 3) []]⟩),
 (101,⟨.agg [(0,3),(1,3),(2,4),(3,3)],4,.agg [.one (.int .i64 0),.one (.int .i64 0),.one (.bool false),.one (.int .i64 0)]⟩),
 (121,⟨.sl 9,1,.sl (some 9) []⟩),
 (123,⟨.agg [(0,3),(1,3),(2,3),(3,121)],4,.agg [.one (.int .i64 0),.one (.int .i64 0),.one (.int .i64 0),.sl (some 9) []]⟩),
 (126,⟨.sl 170,1,.sl (some 170) []⟩),
 (129,⟨.agg [(0,25),(1,3),(2,4),(3,3)],4,.agg [.sl (some 3) [],.one (.int .i64 0),.one (.bool false),.one (.int .i64 0)]⟩),
 (138,⟨.agg [(0,3),(1,3),(2,3),(3,121)],4,.agg [.one (.int .i64 0),.one (.int .i64 0),.one (.int .i64 0),.sl (some 9) []]⟩),
 (151,⟨.arr 400 3,400,.agg (List.replicate 400 (.one (.int .i64 0)))⟩),
 (156,⟨.int .u64,1,.one (.int .u64 0)⟩),
 (162,⟨.sl 280,1,.sl (some 280) []⟩),
 (164,⟨.agg [(0,162)],1,.agg [.sl (some 280) []]⟩),
 (170,⟨.agg [(0,3),(1,3),(2,4)],3,.agg [.one (.int .i64 0),.one (.int .i64 0),.one (.bool false)]⟩),
 (184,⟨.sl 243,1,.sl (some 243) []⟩),
 (186,⟨.sl 192,1,.sl (some 192) []⟩),
 (188,⟨.agg [(0,186)],1,.agg [.sl (some 192) []]⟩),
 (192,⟨.agg [(0,3),(1,3),(2,4)],3,.agg [.one (.int .i64 0),.one (.int .i64 0),.one (.bool false)]⟩),
 (202,⟨.int .i64,1,.one (.int .i64 0)⟩),
 (227,⟨.agg [(0,83),(1,126),(2,25),(3,3),(4,3)],5,.agg [.sl (some 25) [],.sl (some 170) [],.sl (some 3) [],.one (.int .i64 0),.one (.int .i64 0)]⟩),
 (231,⟨.sl 233,1,.sl (some 233) []⟩),
 (233,⟨.sl 4,1,.sl (some 4) []⟩),
 (236,⟨.agg [(0,3),(1,3),(2,3)],3,.agg [.one (.int .i64 0),.one (.int .i64 0),.one (.int .i64 0)]⟩),
 (243,⟨.agg [(0,3),(1,3),(2,3),(3,3)],4,.agg [.one (.int .i64 0),.one (.int .i64 0),.one (.int .i64 0),.one (.int .i64 0)]⟩),
 (252,⟨.arr 2 3,2,.agg (List.replicate 2 (.one (.int .i64 0)))⟩),
 (253,⟨.arr 3 252,6,.agg (List.replicate 3 (.agg (List.replicate 2 (.one (.int .i64 0)))))⟩),
 (280,⟨.agg [(0,3),(1,3),(2,4)],3,.agg [.one (.int .i64 0),.one (.int .i64 0),.one (.bool false)]⟩),
 (284,⟨.fn,1,.one .nilFunc⟩),
 (287,⟨.fn,1,.one .nilFunc⟩),
 (298,⟨.sl 5,1,.sl (some 5) []⟩),
 (309,⟨.fn,1,.one .nilFunc⟩),
 (340,⟨.ifc,1,.one .nilIface⟩)]
set_option maxRecDepth 10000 in
def good:∀t,Dv.Good prog T t:=as9
 ⟨⟨underlying3,t3,_,type3,rfl,rfl,rfl,rfl,by simp[Ty.isAgg],by decide,rfl⟩,
 ⟨underlying4,t4,_,type4,rfl,rfl,rfl,rfl,by simp[Ty.isAgg],by decide,rfl⟩,
 ⟨underlying5,t5,_,type5,rfl,rfl,rfl,rfl,by simp[Ty.isAgg],by decide,rfl⟩,
 ⟨underlying9,t9,_,type9,rfl,rfl,rfl,rfl,by simp[Ty.isAgg],by decide,rfl⟩,
 ⟨underlying22,t22,_,type22,rfl,rfl,rfl,rfl,by simp[Ty.isAgg],by decide,rfl⟩,
 ⟨⟨_,underlying24,rfl,mH.mem ⟨⟨by decide,t22,type22,by decide⟩,trivial⟩,stoodInHeld24⟩,t24,_,type24,rfl,rfl,rfl,rfl,by simp[Ty.isAgg],by decide,rfl⟩,
 ⟨underlying25,t25,_,type25,rfl,rfl,rfl,rfl,by simp[Ty.isAgg],by decide,rfl⟩,
 ⟨⟨_,underlying27,rfl,mH.mem ⟨⟨by decide,t25,type25,by decide⟩,⟨by decide,t3,type3,by decide⟩,trivial⟩,stoodInHeld27⟩,t27,_,type27,rfl,rfl,rfl,rfl,by simp[Ty.isAgg],by decide,rfl⟩,
 ⟨⟨_,underlying29,rfl,mH.mem ⟨⟨by decide,t24,type24,by decide⟩,⟨by decide,t27,type27,by decide⟩,⟨by decide,t25,type25,by decide⟩,trivial⟩,stoodInHeld29⟩,t29,_,type29,rfl,rfl,rfl,rfl,by simp[Ty.isAgg],by decide,rfl⟩,
 ⟨underlying30,t30,_,type30,rfl,rfl,rfl,rfl,by simp[Ty.isAgg],by decide,rfl⟩,
 ⟨underlying31,t31,_,type31,rfl,rfl,rfl,rfl,by simp[Ty.isAgg],by decide,rfl⟩,
 ⟨⟨_,underlying33,rfl,mH.mem ⟨⟨by decide,t3,type3,by decide⟩,⟨by decide,t30,type30,by decide⟩,⟨by decide,t31,type31,by decide⟩,trivial⟩,stoodInHeld33⟩,t33,_,type33,rfl,rfl,rfl,rfl,by simp[Ty.isAgg],by decide,rfl⟩,
 ⟨underlying34,t34,_,type34,rfl,rfl,rfl,rfl,by simp[Ty.isAgg],by decide,rfl⟩,
 ⟨⟨_,underlying36,rfl,mH.mem ⟨⟨by decide,t29,type29,by decide⟩,⟨by decide,t33,type33,by decide⟩,⟨by decide,t34,type34,by decide⟩,⟨by decide,t3,type3,by decide⟩,⟨by decide,t31,type31,by decide⟩,trivial⟩,stoodInHeld36⟩,t36,_,type36,rfl,rfl,rfl,rfl,by simp[Ty.isAgg],by decide,rfl⟩,
 ⟨⟨_,underlying39,rfl,mH.mem ⟨⟨by decide,t3,type3,by decide⟩,⟨by decide,t3,type3,by decide⟩,⟨by decide,t4,type4,by decide⟩,⟨by decide,t3,type3,by decide⟩,trivial⟩,stoodInHeld39⟩,t39,_,type39,rfl,rfl,rfl,rfl,by simp[Ty.isAgg],by decide,rfl⟩,
 ⟨underlying42,t42,_,type42,rfl,rfl,rfl,rfl,by simp[Ty.isAgg],by decide,rfl⟩,
 ⟨⟨_,underlying44,rfl,mH.mem ⟨⟨by decide,t42,type42,by decide⟩,trivial⟩,stoodInHeld44⟩,t44,_,type44,rfl,rfl,rfl,rfl,by simp[Ty.isAgg],by decide,rfl⟩,
 ⟨⟨_,underlying45,rfl,mH.mem ⟨⟨by decide,t25,type25,by decide⟩,⟨by decide,t3,type3,by decide⟩,trivial⟩,stoodInHeld45⟩,t45,_,type45,rfl,rfl,rfl,rfl,by simp[Ty.isAgg],by decide,rfl⟩,
 ⟨⟨_,underlying47,rfl,mH.mem ⟨⟨by decide,t44,type44,by decide⟩,⟨by decide,t45,type45,by decide⟩,⟨by decide,t25,type25,by decide⟩,trivial⟩,stoodInHeld47⟩,t47,_,type47,rfl,rfl,rfl,rfl,by simp[Ty.isAgg],by decide,rfl⟩,
 ⟨underlying48,t48,_,type48,rfl,rfl,rfl,rfl,by simp[Ty.isAgg],by decide,rfl⟩,
 ⟨underlying49,t49,_,type49,rfl,rfl,rfl,rfl,by simp[Ty.isAgg],by decide,rfl⟩,
 ⟨⟨_,underlying51,rfl,mH.mem ⟨⟨by decide,t3,type3,by decide⟩,⟨by decide,t48,type48,by decide⟩,⟨by decide,t49,type49,by decide⟩,trivial⟩,stoodInHeld51⟩,t51,_,type51,rfl,rfl,rfl,rfl,by simp[Ty.isAgg],by decide,rfl⟩,
 ⟨underlying52,t52,_,type52,rfl,rfl,rfl,rfl,by simp[Ty.isAgg],by decide,rfl⟩,
 ⟨⟨_,underlying54,rfl,mH.mem ⟨⟨by decide,t47,type47,by decide⟩,⟨by decide,t51,type51,by decide⟩,⟨by decide,t52,type52,by decide⟩,⟨by decide,t3,type3,by decide⟩,⟨by decide,t49,type49,by decide⟩,trivial⟩,stoodInHeld54⟩,t54,_,type54,rfl,rfl,rfl,rfl,by simp[Ty.isAgg],by decide,rfl⟩,
 ⟨⟨_,underlying82,rfl,mH.mem ⟨⟨by decide,t3,type3,by decide⟩,⟨by decide,t25,type25,by decide⟩,trivial⟩,stoodInHeld82⟩,t82,_,type82,rfl,rfl,rfl,rfl,by simp[Ty.isAgg],by decide,rfl⟩,
 ⟨underlying83,t83,_,type83,rfl,rfl,rfl,rfl,by simp[Ty.isAgg],by decide,rfl⟩,
 ⟨⟨_,underlying89,rfl,mH.mem ⟨⟨by decide,t3,type3,by decide⟩,⟨by decide,t25,type25,by decide⟩,trivial⟩,stoodInHeld89⟩,t89,_,type89,rfl,rfl,rfl,rfl,by simp[Ty.isAgg],by decide,rfl⟩,
 ⟨⟨_,underlying101,rfl,mH.mem ⟨⟨by decide,t3,type3,by decide⟩,⟨by decide,t3,type3,by decide⟩,⟨by decide,t4,type4,by decide⟩,⟨by decide,t3,type3,by decide⟩,trivial⟩,stoodInHeld101⟩,t101,_,type101,rfl,rfl,rfl,rfl,by simp[Ty.isAgg],by decide,rfl⟩,
 ⟨underlying121,t121,_,type121,rfl,rfl,rfl,rfl,by simp[Ty.isAgg],by decide,rfl⟩,
 ⟨⟨_,underlying123,rfl,mH.mem ⟨⟨by decide,t3,type3,by decide⟩,⟨by decide,t3,type3,by decide⟩,⟨by decide,t3,type3,by decide⟩,⟨by decide,t121,type121,by decide⟩,trivial⟩,stoodInHeld123⟩,t123,_,type123,rfl,rfl,rfl,rfl,by simp[Ty.isAgg],by decide,rfl⟩,
 ⟨underlying126,t126,_,type126,rfl,rfl,rfl,rfl,by simp[Ty.isAgg],by decide,rfl⟩,
 ⟨⟨_,underlying129,rfl,mH.mem ⟨⟨by decide,t25,type25,by decide⟩,⟨by decide,t3,type3,by decide⟩,⟨by decide,t4,type4,by decide⟩,⟨by decide,t3,type3,by decide⟩,trivial⟩,stoodInHeld129⟩,t129,_,type129,rfl,rfl,rfl,rfl,by simp[Ty.isAgg],by decide,rfl⟩,
 ⟨⟨_,underlying138,rfl,mH.mem ⟨⟨by decide,t3,type3,by decide⟩,⟨by decide,t3,type3,by decide⟩,⟨by decide,t3,type3,by decide⟩,⟨by decide,t121,type121,by decide⟩,trivial⟩,stoodInHeld138⟩,t138,_,type138,rfl,rfl,rfl,rfl,by simp[Ty.isAgg],by decide,rfl⟩,
 ⟨underlying151,t151,_,type151,rfl,rfl,rfl,rfl,by simp[Ty.isAgg],by decide,rfl⟩,
 ⟨underlying156,t156,_,type156,rfl,rfl,rfl,rfl,by simp[Ty.isAgg],by decide,rfl⟩,
 ⟨underlying162,t162,_,type162,rfl,rfl,rfl,rfl,by simp[Ty.isAgg],by decide,rfl⟩,
 ⟨⟨_,underlying164,rfl,mH.mem ⟨⟨by decide,t162,type162,by decide⟩,trivial⟩,stoodInHeld164⟩,t164,_,type164,rfl,rfl,rfl,rfl,by simp[Ty.isAgg],by decide,rfl⟩,
 ⟨⟨_,underlying170,rfl,mH.mem ⟨⟨by decide,t3,type3,by decide⟩,⟨by decide,t3,type3,by decide⟩,⟨by decide,t4,type4,by decide⟩,trivial⟩,stoodInHeld170⟩,t170,_,type170,rfl,rfl,rfl,rfl,by simp[Ty.isAgg],by decide,rfl⟩,
 ⟨underlying184,t184,_,type184,rfl,rfl,rfl,rfl,by simp[Ty.isAgg],by decide,rfl⟩,
 ⟨underlying186,t186,_,type186,rfl,rfl,rfl,rfl,by simp[Ty.isAgg],by decide,rfl⟩,
 ⟨⟨_,underlying188,rfl,mH.mem ⟨⟨by decide,t186,type186,by decide⟩,trivial⟩,stoodInHeld188⟩,t188,_,type188,rfl,rfl,rfl,rfl,by simp[Ty.isAgg],by decide,rfl⟩,
 ⟨⟨_,underlying192,rfl,mH.mem ⟨⟨by decide,t3,type3,by decide⟩,⟨by decide,t3,type3,by decide⟩,⟨by decide,t4,type4,by decide⟩,trivial⟩,stoodInHeld192⟩,t192,_,type192,rfl,rfl,rfl,rfl,by simp[Ty.isAgg],by decide,rfl⟩,
 ⟨underlying202,t202,_,type202,rfl,rfl,rfl,rfl,by simp[Ty.isAgg],by decide,rfl⟩,
 ⟨⟨_,underlying227,rfl,mH.mem ⟨⟨by decide,t83,type83,by decide⟩,⟨by decide,t126,type126,by decide⟩,⟨by decide,t25,type25,by decide⟩,⟨by decide,t3,type3,by decide⟩,⟨by decide,t3,type3,by decide⟩,trivial⟩,stoodInHeld227⟩,t227,_,type227,rfl,rfl,rfl,rfl,by simp[Ty.isAgg],by decide,rfl⟩,
 ⟨underlying231,t231,_,type231,rfl,rfl,rfl,rfl,by simp[Ty.isAgg],by decide,rfl⟩,
 ⟨underlying233,t233,_,type233,rfl,rfl,rfl,rfl,by simp[Ty.isAgg],by decide,rfl⟩,
 ⟨⟨_,underlying236,rfl,mH.mem ⟨⟨by decide,t3,type3,by decide⟩,⟨by decide,t3,type3,by decide⟩,⟨by decide,t3,type3,by decide⟩,trivial⟩,stoodInHeld236⟩,t236,_,type236,rfl,rfl,rfl,rfl,by simp[Ty.isAgg],by decide,rfl⟩,
 ⟨⟨_,underlying243,rfl,mH.mem ⟨⟨by decide,t3,type3,by decide⟩,⟨by decide,t3,type3,by decide⟩,⟨by decide,t3,type3,by decide⟩,⟨by decide,t3,type3,by decide⟩,trivial⟩,stoodInHeld243⟩,t243,_,type243,rfl,rfl,rfl,rfl,by simp[Ty.isAgg],by decide,rfl⟩,
 ⟨underlying252,t252,_,type252,rfl,rfl,rfl,rfl,by simp[Ty.isAgg],by decide,rfl⟩,
 ⟨underlying253,t253,_,type253,rfl,rfl,rfl,rfl,by simp[Ty.isAgg],by decide,rfl⟩,
 ⟨⟨_,underlying280,rfl,mH.mem ⟨⟨by decide,t3,type3,by decide⟩,⟨by decide,t3,type3,by decide⟩,⟨by decide,t4,type4,by decide⟩,trivial⟩,stoodInHeld280⟩,t280,_,type280,rfl,rfl,rfl,rfl,by simp[Ty.isAgg],by decide,rfl⟩,
 ⟨⟨_,_,_,underlying284⟩,t284,_,type284,rfl,rfl,rfl,rfl,by simp[Ty.isAgg],by decide,rfl⟩,
 ⟨⟨_,_,_,underlying287⟩,t287,_,type287,rfl,rfl,rfl,rfl,by simp[Ty.isAgg],by decide,rfl⟩,
 ⟨underlying298,t298,_,type298,rfl,rfl,rfl,rfl,by simp[Ty.isAgg],by decide,rfl⟩,
 ⟨⟨_,_,_,underlying309⟩,t309,_,type309,rfl,rfl,rfl,rfl,by simp[Ty.isAgg],by decide,rfl⟩,
 ⟨⟨_,underlying340⟩,t340,_,type340,rfl,rfl,rfl,rfl,by simp[Ty.isAgg],by decide,rfl⟩,
 trivial⟩
@[go_sem] def T3:T 3=⟨.int .i64,1,.one (.int .i64 0)⟩:=rfl
@[go_sem] def T4:T 4=⟨.bool,1,.one (.bool false)⟩:=rfl
@[go_sem] def T5:T 5=⟨.int .u8,1,.one (.int .u8 0)⟩:=rfl
@[go_sem] def T9:T 9=⟨.str,1,.one (.string {data:= #[]})⟩:=rfl
@[go_sem] def T22:T 22=⟨.sl 164,1,.sl (some 164) []⟩:=rfl
@[go_sem] def T24:T 24=⟨.agg [(0,22)],1,.agg [.sl (some 164) []]⟩:=rfl
@[go_sem] def T25:T 25=⟨.sl 3,1,.sl (some 3) []⟩:=rfl
@[go_sem] def T27:T 27=⟨.agg [(0,25),(1,3)],2,.agg [.sl (some 3) [],.one (.int .i64 0)]⟩:=rfl
@[go_sem] def T29:T 29=⟨.agg [(0,24),(1,27),(3,25)],4,.agg [.agg [.sl (some 164) []],.agg [.sl (some 3) [],.one (.int .i64 0)],.sl (some 3) []]⟩:=rfl
@[go_sem] def T30:T 30=⟨.sl 123,1,.sl (some 123) []⟩:=rfl
@[go_sem] def T31:T 31=⟨.sl 101,1,.sl (some 101) []⟩:=rfl
@[go_sem] def T33:T 33=⟨.agg [(0,3),(1,30),(2,31)],3,.agg [.one (.int .i64 0),.sl (some 123) [],.sl (some 101) []]⟩:=rfl
@[go_sem] def T34:T 34=⟨.sl 82,1,.sl (some 82) []⟩:=rfl
@[go_sem] def T36:T 36=⟨.agg [(0,29),(4,33),(7,34),(8,3),(9,31)],10,.agg [.agg [.agg [.sl (some 164) []],.agg [.sl (some 3) [],.one (.int .i64 0)],.sl (some 3) []],.agg [.one (.int .i64 0),.sl (some 123) [],.sl (some 101) []],.sl (some 82) [],.one (.int .i64 0),.sl (some 101) []]⟩:=rfl
@[go_sem] def T39:T 39=⟨.agg [(0,3),(1,3),(2,4),(3,3)],4,.agg [.one (.int .i64 0),.one (.int .i64 0),.one (.bool false),.one (.int .i64 0)]⟩:=rfl
@[go_sem] def T42:T 42=⟨.sl 188,1,.sl (some 188) []⟩:=rfl
@[go_sem] def T44:T 44=⟨.agg [(0,42)],1,.agg [.sl (some 188) []]⟩:=rfl
@[go_sem] def T45:T 45=⟨.agg [(0,25),(1,3)],2,.agg [.sl (some 3) [],.one (.int .i64 0)]⟩:=rfl
@[go_sem] def T47:T 47=⟨.agg [(0,44),(1,45),(3,25)],4,.agg [.agg [.sl (some 188) []],.agg [.sl (some 3) [],.one (.int .i64 0)],.sl (some 3) []]⟩:=rfl
@[go_sem] def T48:T 48=⟨.sl 138,1,.sl (some 138) []⟩:=rfl
@[go_sem] def T49:T 49=⟨.sl 39,1,.sl (some 39) []⟩:=rfl
@[go_sem] def T51:T 51=⟨.agg [(0,3),(1,48),(2,49)],3,.agg [.one (.int .i64 0),.sl (some 138) [],.sl (some 39) []]⟩:=rfl
@[go_sem] def T52:T 52=⟨.sl 89,1,.sl (some 89) []⟩:=rfl
@[go_sem] def T54:T 54=⟨.agg [(0,47),(4,51),(7,52),(8,3),(9,49)],10,.agg [.agg [.agg [.sl (some 188) []],.agg [.sl (some 3) [],.one (.int .i64 0)],.sl (some 3) []],.agg [.one (.int .i64 0),.sl (some 138) [],.sl (some 39) []],.sl (some 89) [],.one (.int .i64 0),.sl (some 39) []]⟩:=rfl
@[go_sem] def T82:T 82=⟨.agg [(0,3),(1,25)],2,.agg [.one (.int .i64 0),.sl (some 3) []]⟩:=rfl
@[go_sem] def T83:T 83=⟨.sl 25,1,.sl (some 25) []⟩:=rfl
@[go_sem] def T89:T 89=⟨.agg [(0,3),(1,25)],2,.agg [.one (.int .i64 0),.sl (some 3) []]⟩:=rfl
@[go_sem] def T101:T 101=⟨.agg [(0,3),(1,3),(2,4),(3,3)],4,.agg [.one (.int .i64 0),.one (.int .i64 0),.one (.bool false),.one (.int .i64 0)]⟩:=rfl
@[go_sem] def T121:T 121=⟨.sl 9,1,.sl (some 9) []⟩:=rfl
@[go_sem] def T123:T 123=⟨.agg [(0,3),(1,3),(2,3),(3,121)],4,.agg [.one (.int .i64 0),.one (.int .i64 0),.one (.int .i64 0),.sl (some 9) []]⟩:=rfl
@[go_sem] def T126:T 126=⟨.sl 170,1,.sl (some 170) []⟩:=rfl
@[go_sem] def T129:T 129=⟨.agg [(0,25),(1,3),(2,4),(3,3)],4,.agg [.sl (some 3) [],.one (.int .i64 0),.one (.bool false),.one (.int .i64 0)]⟩:=rfl
@[go_sem] def T138:T 138=⟨.agg [(0,3),(1,3),(2,3),(3,121)],4,.agg [.one (.int .i64 0),.one (.int .i64 0),.one (.int .i64 0),.sl (some 9) []]⟩:=rfl
@[go_sem] def T151:T 151=⟨.arr 400 3,400,.agg (List.replicate 400 (.one (.int .i64 0)))⟩:=rfl
@[go_sem] def T156:T 156=⟨.int .u64,1,.one (.int .u64 0)⟩:=rfl
@[go_sem] def T162:T 162=⟨.sl 280,1,.sl (some 280) []⟩:=rfl
@[go_sem] def T164:T 164=⟨.agg [(0,162)],1,.agg [.sl (some 280) []]⟩:=rfl
@[go_sem] def T170:T 170=⟨.agg [(0,3),(1,3),(2,4)],3,.agg [.one (.int .i64 0),.one (.int .i64 0),.one (.bool false)]⟩:=rfl
@[go_sem] def T184:T 184=⟨.sl 243,1,.sl (some 243) []⟩:=rfl
@[go_sem] def T186:T 186=⟨.sl 192,1,.sl (some 192) []⟩:=rfl
@[go_sem] def T188:T 188=⟨.agg [(0,186)],1,.agg [.sl (some 192) []]⟩:=rfl
@[go_sem] def T192:T 192=⟨.agg [(0,3),(1,3),(2,4)],3,.agg [.one (.int .i64 0),.one (.int .i64 0),.one (.bool false)]⟩:=rfl
@[go_sem] def T202:T 202=⟨.int .i64,1,.one (.int .i64 0)⟩:=rfl
@[go_sem] def T227:T 227=⟨.agg [(0,83),(1,126),(2,25),(3,3),(4,3)],5,.agg [.sl (some 25) [],.sl (some 170) [],.sl (some 3) [],.one (.int .i64 0),.one (.int .i64 0)]⟩:=rfl
@[go_sem] def T231:T 231=⟨.sl 233,1,.sl (some 233) []⟩:=rfl
@[go_sem] def T233:T 233=⟨.sl 4,1,.sl (some 4) []⟩:=rfl
@[go_sem] def T236:T 236=⟨.agg [(0,3),(1,3),(2,3)],3,.agg [.one (.int .i64 0),.one (.int .i64 0),.one (.int .i64 0)]⟩:=rfl
@[go_sem] def T243:T 243=⟨.agg [(0,3),(1,3),(2,3),(3,3)],4,.agg [.one (.int .i64 0),.one (.int .i64 0),.one (.int .i64 0),.one (.int .i64 0)]⟩:=rfl
@[go_sem] def T252:T 252=⟨.arr 2 3,2,.agg (List.replicate 2 (.one (.int .i64 0)))⟩:=rfl
@[go_sem] def T253:T 253=⟨.arr 3 252,6,.agg (List.replicate 3 (.agg (List.replicate 2 (.one (.int .i64 0)))))⟩:=rfl
@[go_sem] def T280:T 280=⟨.agg [(0,3),(1,3),(2,4)],3,.agg [.one (.int .i64 0),.one (.int .i64 0),.one (.bool false)]⟩:=rfl
@[go_sem] def T284:T 284=⟨.fn,1,.one .nilFunc⟩:=rfl
@[go_sem] def T287:T 287=⟨.fn,1,.one .nilFunc⟩:=rfl
@[go_sem] def T298:T 298=⟨.sl 5,1,.sl (some 5) []⟩:=rfl
@[go_sem] def T309:T 309=⟨.fn,1,.one .nilFunc⟩:=rfl
@[go_sem] def T340:T 340=⟨.ifc,1,.one .nilIface⟩:=rfl
def EL (P:Program):List Nat->Prop
 |[]=>True
 |f::l=>Dv.Enters P f/\EL P l
variable {f:Nat}
def EL.get {P:Program}:∀{l:List Nat},EL P l->f∈l->Dv.Enters P f
 |[],_,h=>by cases h
 |g::l,h,hm=>by
  rcases aS.1 hm with rfl|hm
  ·exact h.1
  ·exact EL.get h.2 hm
def eL:List Nat:=[4,5,6,7,8,9,10,11,12,13,14,15,16,17,18,19,20,21,22,23,24,25,26,27,28,29,30,31,32,33,34,35,36,37,38,39,40,41,42,43,44,45,46,47,48,49,50,51,52,53,54,55,56,57,58,59,60,61,62,63,64,65,66,67,68,69,70,71,72,73,74,75,76,77,78,79,80,81,82,83,84,85,86,87,88,89,90,91,92,93,94,95,96,97,98,99,100,101,102,103,104,105,106,107,108,109,110,111,112,113,114,115,116,117,118,119,120,121,122,123,124,125,126,127,128,129,130,131,132,133,134,135,136,137,138,139,140,141,142,143,144,145,146,147,148,149,150,151,152,153,154,155,156,157,158,159,160,161,162,163,164,165,166,167,168,169,170,171,172,173,174,175,176,177,178,179,180,181,182,183,184,185,186,187,188,191,192,193,194,195,196,197,198,199,200,201,202,203,204,205,206,207,208,209,210,211,212,213,214,215,216,217,218,219,220,221,222,223,224,225,226,227,228,229,230,231,232,233,234,235,236,237,238,239,240,241,242,243,244,245,246,247,248,249,250,251,252,253,254,255,256,257,258,265,266,267,268,269,270,271,272,273,274,275,276,277,278,279,280,281,282,283,284,286,287,288,289,290,291,292,293,294,295,296,297,298,299,300,301,302,303,304,305,306,307,308,309,310,311,312,313,314,315,316,322,323,324,325,326,327,328,329,330,331,332,333,334,339,340,341,342,343,344,345,346,347,348,349,350,351,352,353,354,355,356,357,358,360,361,362,363,364,367,368,369,370,371,372,378,379,380,381,382,383,384,385,386,387,388,389,390,391,392,393,394,398,401,402,403,404,405,406,407,408,409,410,411,414]
open Tryz in
def eLs:EL prog eL:=⟨call4,call5,call6,call7,call8,call9,call10,call11,call12,call13,call14,call15,call16,call17,call18,call19,call20,call21,call22,call23,call24,call25,call26,call27,call28,call29,call30,call31,call32,call33,call34,call35,call36,call37,call38,call39,call40,call41,call42,call43,call44,call45,call46,call47,call48,call49,call50,call51,call52,call53,call54,call55,call56,call57,call58,call59,call60,call61,call62,call63,call64,call65,call66,call67,call68,call69,call70,call71,call72,call73,call74,call75,call76,call77,call78,call79,call80,call81,call82,call83,call84,call85,call86,call87,call88,call89,call90,call91,call92,call93,call94,call95,call96,call97,call98,call99,call100,call101,call102,call103,call104,call105,call106,call107,call108,call109,call110,call111,call112,call113,call114,call115,call116,call117,call118,call119,call120,call121,call122,call123,call124,call125,call126,call127,call128,call129,call130,call131,call132,call133,call134,call135,call136,call137,call138,call139,call140,call141,call142,call143,call144,call145,call146,call147,call148,call149,call150,call151,call152,call153,call154,call155,call156,call157,call158,call159,call160,call161,call162,call163,call164,call165,call166,call167,call168,call169,call170,call171,call172,call173,call174,call175,call176,call177,call178,call179,call180,call181,call182,call183,call184,call185,call186,call187,call188,call191,call192,call193,call194,call195,call196,call197,call198,call199,call200,call201,call202,call203,call204,call205,call206,call207,call208,call209,call210,call211,call212,call213,call214,call215,call216,call217,call218,call219,call220,call221,call222,call223,call224,call225,call226,call227,call228,call229,call230,call231,call232,call233,call234,call235,call236,call237,call238,call239,call240,call241,call242,call243,call244,call245,call246,call247,call248,call249,call250,call251,call252,call253,call254,call255,call256,call257,call258,call265,call266,call267,call268,call269,call270,call271,call272,call273,call274,call275,call276,call277,call278,call279,call280,call281,call282,call283,call284,call286,call287,call288,call289,call290,call291,call292,call293,call294,call295,call296,call297,call298,call299,call300,call301,call302,call303,call304,call305,call306,call307,call308,call309,call310,call311,call312,call313,call314,call315,call316,call322,call323,call324,call325,call326,call327,call328,call329,call330,call331,call332,call333,call334,call339,call340,call341,call342,call343,call344,call345,call346,call347,call348,call349,call350,call351,call352,call353,call354,call355,call356,call357,call358,call360,call361,call362,call363,call364,call367,call368,call369,call370,call371,call372,call378,call379,call380,call381,call382,call383,call384,call385,call386,call387,call388,call389,call390,call391,call392,call393,call394,call398,call401,call402,call403,call404,call405,call406,call407,call408,call409,call410,call411,call414,trivial⟩
def okF (f:Nat):Bool:=decide (f<490)&& !([0,1,2,3,189,190,259,260,261,262,263,264,285,317,318,319,320,321,335,336,337,338,359,365,366,373,374,375,376,377,395,396,397,399,400,412,413,415,416,417,418,419,420,421,422,423,424,425,426,427,428,429,430,431,432,433,434,435,436,437,438,439,440,441,442,443,444,445,446,447,448,449,450,451,452,453,454,455,456,457,458,459,460,461,462,463,464,465,466,467,468,469,470,471,472,473,474,475,476,477,478,479,480,481,482,483,484,485,486,487,488,489].contains f)
def aB3 (h:okF f=true):f∈eL:=by
 have h1:(List.range 490).all (fun f=> !okF f||eL.contains f)=true:=by kernel_rfl
 have h2:f<490:=by simp only[okF,k_Bool_and_eq_true,decide_eq_true_eq]at h;exact h.1
 have h3:=aI.1 h1 f (aZ.2 h2);rw[h]at h3;simpa using h3
@[go_sem] def enF (h:okF f=true):Dv.Enters prog f:=EL.get eLs (aB3 h)
attribute [go_sem] okF
def azP {M:List (Nat×Nat)}{L:List (Nat×TyE)}{t:Nat}(h1:M.lookup t=none)(h2:∀p∈L,p.1≠t):azO M L t=⟨.no,0,.any 0⟩:=by
 unfold azO;rw[h1]
 induction L with
 |nil=>rfl
 |cons p L ih=>
  obtain⟨u,e⟩:=p;have h3:=h2 (u,e) wE;simp only[tab];rw[if_neg (by simpa using k_Ne_symm h3)];exact ih fun p hp=>h2 p (bG _ hp)
def agQ :∀{M:List (Nat×Nat)},((M.map fun p=>p.1).contains f)=false->M.lookup f=none
 |[],_=>rfl
 |(a,b)::M,h=>by
  simp only[gP,List.contains_cons,Bool.or_eq_false_iff]at h;rw[List.lookup,h.1];exact agQ h.2
@[go_sem] def muF (h1:1000000<=f)(h2:([1000062,1000067,1000108,1000113,1000118,1000175,1000178,1000179,1000251,1000279,1000291,1000293,1000294,1000341,1000358].contains f)=false):T f=⟨.no,0,.any 0⟩:=by
 unfold T;refine azP (agQ h2) fun p hp e=> ?_;have h3:=fun h=>aI (p:=fun q:Nat×TyE=>decide (q.1<1000000))|>.1 h p hp;have h4:=h3 (by kernel_rfl);simp only[decide_eq_true_eq]at h4;omega
@[go_sem] def mu62:T 1000062=⟨.no,1,.any 0⟩:=rfl
@[go_sem] def mu67:T 1000067=⟨.no,1,.any 0⟩:=rfl
@[go_sem] def mu108:T 1000108=⟨.no,1,.any 0⟩:=rfl
@[go_sem] def mu113:T 1000113=⟨.no,1,.any 0⟩:=rfl
@[go_sem] def mu118:T 1000118=⟨.no,1,.any 0⟩:=rfl
@[go_sem] def mu175:T 1000175=⟨.no,1001,.any 0⟩:=rfl
@[go_sem] def mu178:T 1000178=⟨.no,1,.any 0⟩:=rfl
@[go_sem] def mu179:T 1000179=⟨.no,1,.any 0⟩:=rfl
@[go_sem] def mu251:T 1000251=⟨.no,1,.any 0⟩:=rfl
@[go_sem] def mu279:T 1000279=⟨.no,1,.any 0⟩:=rfl
@[go_sem] def mu291:T 1000291=⟨.no,1000,.any 0⟩:=rfl
@[go_sem] def mu293:T 1000293=⟨.no,1000,.any 0⟩:=rfl
@[go_sem] def mu294:T 1000294=⟨.no,1000,.any 0⟩:=rfl
@[go_sem] def mu341:T 1000341=⟨.no,1000,.any 0⟩:=rfl
@[go_sem] def mu358:T 1000358=⟨.no,1,.any 0⟩:=rfl
def mu56:T 1000056=⟨.no,0,.any 0⟩:=rfl
def en56:Dv.Enters prog 56:=call56
def aGY:T 1000063=⟨.no,0,.any 0⟩:=rfl
def aGW:Dv.Enters prog 63:=call63
def aGB:T 1000068=⟨.no,0,.any 0⟩:=rfl
def aFX:Dv.Enters prog 68:=call68
def aDA:T 1000109=⟨.no,0,.any 0⟩:=rfl
def aC5:Dv.Enters prog 109:=call109
def aF1:T 1000111=⟨.no,0,.any 0⟩:=rfl
def aFM:Dv.Enters prog 111:=call111
def aF2:T 1000117=⟨.no,0,.any 0⟩:=rfl
def aFN:Dv.Enters prog 117:=call117
def aF3:T 1000176=⟨.no,0,.any 0⟩:=rfl
def aFO:Dv.Enters prog 176:=call176
def aF4:T 1000288=⟨.no,0,.any 0⟩:=rfl
def aFP:Dv.Enters prog 288:=call288
def aF5:T 1000297=⟨.no,0,.any 0⟩:=rfl
def aFQ:Dv.Enters prog 297:=call297
def aF6:T 1000340=⟨.no,0,.any 0⟩:=rfl
def aFR:Dv.Enters prog 340:=call340
def aF7:T 1000348=⟨.no,0,.any 0⟩:=rfl
def aFS:Dv.Enters prog 348:=call348
def aFT:Dv.Enters prog 361:=call361
def aF8:T 1000380=⟨.no,0,.any 0⟩:=rfl
def aFU:Dv.Enters prog 380:=call380
def aF9:T 1000385=⟨.no,0,.any 0⟩:=rfl
def aFV:Dv.Enters prog 385:=call385
def aGA:T 1000387=⟨.no,0,.any 0⟩:=rfl
def aFW:Dv.Enters prog 387:=call387
abbrev Fk (f:FuncId)(ds:List D)(r:S):Prop:=fP prog f ds fun r'=>r'=r
end Go.Proofs.YtigjbamofhdchaaGreatDoor
end
section
namespace Go.Dv
open Go.RowKit Go.ChangeShapes
variable {fs:Array Field}
section
variable {H:Type}{enc:TypeId×Value->H}{P:Program}{W:World}{t e:TypeId}{cs:List Value}{k:Nat}
def Tr (enc:TypeId×Value->H)(P:Program)(W:World)(t:TypeId)(cs:List Value):Prop:=∃fuel x,DataW.trod enc P W 0 (fun _=>true) true fuel t cs=some x
def Rd (P:Program)(W:World)(d:D)(cs:List Value):Prop:=∀l,R P W (fun _=>none) d l cs
def open_int (ht:P.underlying t=some (.int .i64))(h:Tr enc P W t cs):∃n,Rd P W (dI n) cs:=by
 obtain⟨f,x,h⟩:=h;obtain⟨n,rfl,_⟩:=DataW.trod_int ht h;exact⟨n,fun l=>by simp[R,Value.oneCell']⟩
def open_bool (ht:P.underlying t=some .bool)(h:Tr enc P W t cs):∃b,Rd P W (dB b) cs:=by
 obtain⟨f,x,h⟩:=h;obtain⟨n,rfl,_⟩:=DataW.trod_bool ht h;exact⟨n,fun l=>by simp[R,Value.oneCell']⟩
def ayX (ht:P.underlying t=some .string)(h:Tr enc P W t cs):∃s:Str,s.length<=9223372036854775807/\Rd P W (dS s) cs:=by
 obtain⟨f,x,h⟩:=h;obtain⟨n,rfl,_,hz⟩:=DataW.trod_string ht h;obtain⟨s,rfl⟩:∃s:Str,n=⟨s.toArray⟩:=⟨n.data.toList,by rw[←aFH n]⟩;rw[ba_size]at hz;have h2:maxLen=9223372036854775807:=rfl;exact⟨s,by omega,fun l=>by simp only[R];exact⟨trivial,rfl⟩⟩
def yG (ht:P.underlying t=some (.struct fs))(h:Tr enc P W t cs)(i:Nat)(f:Field)(hf:fs[i]?=some f)(o k:Nat)(ho:f.offset=o)(hk:P.cellsOf f.type=k):
  Tr enc P W f.type ((cs.drop o).take k):=by
 obtain⟨fu,x,h⟩:=h;obtain⟨xs,n,_,_,_,hlen,hfs⟩:=DataW.trod_struct ht h;have h1:=hfs i f hf;have h2:i<xs.length:=by rw[hlen];exact(bK.1 hf).1
 rw[ho,hk]at h1;exact⟨n,xs[i],by rw[h1];simp[h2]⟩
def yH (ht:P.underlying t=some (.struct fs)){n:Nat}(hn:P.cellsOf t=n)(h:Tr enc P W t cs):cs.length<=n:=by
 obtain⟨fu,x,h⟩:=h;obtain⟨xs,m,_,_,hl,_,_⟩:=DataW.trod_struct ht h;omega
def I8 {n:Nat}(h:cs.length<=n)(l:List Nat)(i:Nat):Ra P W (fun _=>none) [] l i (cs.drop n):=by
 simp only[Ra];exact bW h
def jJ {x:D}{xs:List D}{o k:Nat}(h1:Rd P W x ((cs.drop o).take k))(h2:∀l i,Ra P W (fun _=>none) xs l i (cs.drop (o+k)))(l:List Nat)(i:Nat):Ra P W (fun _=>none) (x::xs) l i (cs.drop o):=by
 simp only[Ra];exact⟨_,_,by rw[←List.drop_drop];exact(cZ k (cs.drop o)).symm,(h1 []).len,h1 _,h2 _ _⟩
def I9 {xs:List D}(h:∀l i,Ra P W (fun _=>none) xs l i (cs.drop 0)):Rd P W (.agg xs) cs:=fun l=>by
 simp only[R];exact h l 0
def aDD {C:Array Value}:∀(xs:List D) (l:List Nat) (i0 off:Nat),(∀i y,xs[i]?=some y->∃vs:List Value,vs.length=k/\(∀j,j<k->C[off+i*k+j]?=vs[j]?)/\Rd P W y vs)->Rs P W (fun _=>none) xs l i0 C off k
 |[],_,_,_,_=>by simp only[Rs]
 |x::xs,l,i0,off,h=>by
  obtain⟨vs,h1,h2,h3⟩:=h 0 x rfl;simp only[Rs];refine⟨vs,?_,h1,fun j hj=>by simpa using h2 j hj,h3 _,aDD xs l (i0+1) (off+k) fun i y hy=> ?_⟩
  ·rw[←(h3 []).len];exact h1
  ·obtain⟨vs,h1,h2,h3⟩:=h (i+1) y (by simpa using hy);exact⟨vs,h1,fun j hj=>by have:=h2 j hj;rwa [show off+k+i*k+j=off+(i+1)*k+j by rw[Nat.succ_mul];omega],h3⟩
def asE {b o:Nat}{v:Value}{C:Array Value}{e:TypeId}{fz:Nat×Nat}(hh:W.heap[b]?=some (.cells C e fz))(h:W.cell? ⟨b,o,none⟩=some v):C[o]?=some v:=by
 unfold World.cell? at h;simpa[hh]using h
def atD {b o:Nat}{v:Value}(h:W.cell? ⟨b,o,none⟩=some v):∃C e fz,W.heap[b]?=some (.cells C e fz):=by
 unfold World.cell? at h;split at h
 ·rename_i C e fz hh;exact⟨C,e,fz,hh⟩
 ·simp at h
def LD {α:Type}{f:α->D}{Q:α->Prop}(ht:P.underlying t=some (.slice e)) (hk:P.cellsOf e=k) (hk0:0<k)
  (hR:∀vs,Tr enc P W e vs->∃y,Q y/\Rd P W (f y) vs) (h:Tr enc P W t cs):
  ∃ys:List α,(ys.length<=9223372036854775807/\∀y∈ys,Q y)/\Rd P W (.sl none (ys.map f)) cs:=by
 obtain⟨fu,x,h⟩:=h;have h9:maxLen=9223372036854775807:=rfl;rcases DataW.trod_slice ht h with⟨rfl,_⟩|⟨a,len,cap,elems,rest,n,_,rfl,_,_,hl,hm,hlen,hel,_,_⟩
 ·exact⟨[],⟨by simp,by simp⟩,fun l=>by simp only[R];exact⟨none,0,rfl,by simp,by omega,.inl ⟨rfl,rfl,rfl⟩⟩⟩
 ·have each:∀i:Fin len,∃y:α,∃vs:List Value,Q y/\vs.length=k/\(∀j,(hj:j<vs.length)->W.cell? ((a.add (i.1*k)).add j)=some vs[j])/\Rd P W (f y) vs:=by
   intro i;have h1:=hel i.1 i.2;have h2:i.1<elems.length:=by rw[hlen];exact i.2
   rw[hk,aB h2]at h1;obtain⟨vs,hvs,htr⟩:=Option.bind_eq_some_iff.1 h1;obtain⟨y,hq,hy⟩:=hR _ ⟨_,_,htr⟩
   have hc:(List.range k).mapM (fun j=>W.cell? ((a.add (i.1*k)).add j))=some vs:=by
    unfold World.cells? at hvs;rw[if_pos (Nat.zero_le _)]at hvs;exact hvs
   have hvl:vs.length=k:=by rw[mapM_some_length hc,List.length_range]
   refine⟨y,vs,hq,hvl,fun j hj=> ?_,hy⟩;have h3:=mapM_some_get hc j j (by rw[uY (by omega)]);rw[h3];simp[hj]
  obtain⟨g,hg⟩:=Classical.axiomOfChoice each;refine⟨List.ofFn g,⟨by simp;omega,fun y hy=> ?_⟩,fun l=> ?_⟩
  ·obtain⟨i,rfl⟩:=List.mem_ofFn.1 hy;exact(hg i).choose_spec.1
  ·simp only[R];refine⟨some a,cap,by simp,by simp;omega,hm,?_⟩;by_cases h0:len=0
   ·refine .inr (.inl ⟨by simp,?_⟩);apply bB;simp[h0]
   ·obtain⟨vs0,_,g1,g2,_⟩:=hg ⟨0,by omega⟩;have hs:=World.cell?_spot (g2 0 (by omega));obtain⟨b,o,sp⟩:=a;obtain rfl:sp=none:=by simpa[Addr.add]using hs
    obtain⟨C,e',fz,hh⟩:=atD (by simpa[Addr.add]using g2 0 (by omega));refine .inr (.inr ⟨b,o,k,C,e',fz,rfl,hh,by simp,by simp,aDD _ _ _ _ fun i y hy=> ?_⟩);rw[aN,aK]at hy;obtain⟨y',hy,rfl⟩:=hy;obtain⟨hi,rfl⟩:=aD.1 hy;rw[List.getElem_ofFn];obtain⟨vs,_,h1,h2,h3⟩:=hg ⟨i,by simpa using hi⟩;refine⟨vs,h1,fun j hj=> ?_,h3⟩;have h5:=h2 j (by omega);rw[Addr.add_lit,Addr.add_lit]at h5;rw[asE hh h5,aB (by omega)]
def aGO {xs:List D}{cs:Array Value}(h:Rd P W (.agg xs) cs.toList):V P W (fun _=>none) (.agg xs) [] (.agg cs):=by
 simp only[V];exact⟨cs,rfl,h []⟩
def aDH {u v:Value}(h:Rd P W (.one u) [v]):V P W (fun _=>none) (.one u) [] v:=by
 simp only[V];exact h []
end
end Go.Dv
end
section
namespace Go.Dv
open Go.RowKit Go.Pl
variable [kW]
def fMs {P:Program}{T:TypeId->TyE}{f:FuncId}{fn:Func}{c:Code}{n:Nat}{rs:List ResultVar}{ds:List D}{m:Nat}{dm:D}{Q:S->D->Prop}[hG:vM P T] (sp:List Nat) (hn':fn.ntmps=n) (h:∀w0 ow0 v,@rG _ P T n w0 ow0 (some (m,v)) sp ⟨c⟩ ((argSt ds).put m (.own dm)) ⟨endM T rs m Q⟩) (hf:P.funcs[f]?=some fn:=by rfl)
  (hb:fn.body=some c:=by rfl) (hr:fn.results=rs.toArray:=by rfl) (hd':∀v,noC (some (m,v)) c=true:=by intro;rfl) (hn:n<=1000000:=by decide) (hd:ds.length<=n:=by simp):MZ P f ds m dm Q:=awU hG.g hf hb hn' hn hd hr fun w0 ow0 v=>h w0 ow0 v (hd' v)
end Go.Dv
end
section
namespace Go.Dv
open Go.RowKit
variable [kW]
inductive OT where
 |fin
 |no
 |st (i:Nat) (t alt:OT)
def OT.heads:OT->List Nat
 | .st i _ alt=>i::alt.heads
 |_=>[]
def OT.depth:OT->Nat
 | .st _ t alt=>max (t.depth+1) alt.depth
 |_=>0
def OT.cov (md:Region.Mode)(ops:Array Oper)(listed:Array Bool)(t:OT):Bool:=match t with
 | .no=>false
 |t=>(Region.ready md ops listed).all fun i=>t.heads.contains i
def OT.ok (md:Region.Mode)(ops:Array Oper):OT->Array Bool->Bool
 | .fin,_=>true
 | .no,_=>true
 | .st i t alt,l=>(Region.ready md ops l).contains i&&t.cov md ops (l.setIfInBounds i true)&&t.ok md ops (l.setIfInBounds i true)&&alt.ok md ops l
section
variable {P:Program}{T:TypeId->TyE}{n:Nat}{ops:Array Oper}{md:Region.Mode}{ft:List (Nat×List Nat)}
def QT (P:Program)(T:TypeId->TyE)(n:Nat)(ft:List (Nat×List Nat))(ops:Array Oper)(AK:List Nat):OT->St->(St->Prop)->Prop
 | .fin,s,K=>K s
 | .no,_,_=>True
 | .st i t alt,s,K=>(match ops[i]? with
  |some o=>QF P T n ft [] ops [o] i AK s (fun s'=> @frK s' ⟨fun s'=>QT P T n ft ops AK t s' K⟩)
  |none=>False)/\QT P T n ft ops AK alt s K
end
section
variable {P:Program}{T:TypeId->TyE}{n:Nat}{w0:World}{ow0:Own}{p:Pin}{sp:List Nat}{s:St}{K:Exit->St->Prop}
end
attribute [go_sem] QT
section
variable {P:Program}{T:TypeId->TyE}{n:Nat}{ops:Array Oper}{md:Region.Mode}{p:Pin}{w0:World}{ow0:Own}
def QO (P:Program)(T:TypeId->TyE)(n:Nat)(ops:Array Oper):OT->St->(St->Prop)->Prop
 | .fin,s,K=>K s
 | .no,_,_=>True
 | .st i t alt,s,K=>(match ops[i]? with
  |some o=>vcL P T n ops [o] s (fun s'=> @frK s' ⟨fun s'=>QO P T n ops t s' K⟩)
  |none=>False)/\QO P T n ops alt s K
def aEC {o:Oper}{i:Nat}(ho:ops[i]?=some o) {s:St}{K:St->Prop}{Q:Exit->Act->World->Prop}{F:Act->World->Prop}(hd:rP p o=true) (h:OkL P n w0 ow0 ops [o] s K) {a:Act}{w:World}(hR:Rel P n w0 ow0 s a w) (hp:Pinned p a)
  (hF:∀s' a' w',K s'->Rel P n w0 ow0 s' a' w'->Pinned p a'->F a' w'):wpOp P ops Q i F a w:=by
 have hg:=PX hR h;unfold wpOp;rw[ho];simp only;split
 ·rename_i hw;rw[if_pos hw]at hg;have h1:=hg a w hR (fun a' w'=>∃s',OkL P n w0 ow0 ops [] s' K/\Rel P n w0 ow0 s' a' w') Q fun s' a' w' hK hR'=>⟨s',hK,hR'⟩;exact .inl (sU (fun a' w' hh=>by obtain⟨⟨s',hK,hR'⟩,hp'⟩:=hh;exact hF s' a' w' hK hR' hp') (YY hp hd h1))
 ·rename_i hw;rw[if_neg hw]at hg;obtain⟨ow,hf⟩:=hR;exact hF _ _ w hg.2 ⟨ow,hf.aEU hg.1⟩ (hp.put hd)
def aGM (hG:∀t,Good P T t)(hd:∀o∈ops.toList,rP p o=true){K:St->Prop}{Q:Exit->Act->World->Prop}(hQ:∀s' a' w',K s'->Rel P n w0 ow0 s' a' w'->Pinned p a'->Q .normal a' w'):∀(t:OT),
  (∀(listed:Array Bool) (s:St) (a:Act) (w:World) (fuel:Nat),t.ok md ops listed=true->t.depth<=fuel+1->QO P T n ops t s K->Rel P n w0 ow0 s a w->Pinned p a->∀i∈t.heads,wpOp P ops Q i (wpAny P md ops Q fuel (listed.setIfInBounds i true)) a w)/\
  (∀(listed:Array Bool) (s:St) (a:Act) (w:World) (fuel:Nat),t.cov md ops listed=true->t.ok md ops listed=true->t.depth<=fuel->QO P T n ops t s K->Rel P n w0 ow0 s a w->Pinned p a->wpAny P md ops Q fuel listed a w):=by
 intro t
 induction t with
 |fin=>
  refine⟨fun _ _ _ _ _ _ _ _ _ _ i hi=>by simp[OT.heads]at hi,fun listed s a w fuel hc _ _ h hR hp=> ?_⟩
  have h0:Region.ready md ops listed=[]:=by
   cases hr:Region.ready md ops listed with
   |nil=>rfl
   |cons x l=>simp[OT.cov,OT.heads,hr]at hc
  cases fuel with
  |zero=>exact⟨h0,hQ s a w h hR hp⟩
  |succ fuel=>exact⟨fun _=>hQ s a w h hR hp,fun i hi=>by rw[h0]at hi;cases hi⟩
 |no=>exact⟨fun _ _ _ _ _ _ _ _ _ _ i hi=>by simp[OT.heads]at hi,fun _ _ _ _ _ hc=>by simp[OT.cov]at hc⟩
 |st j t alt iht iha=>
  have hAA:∀(listed:Array Bool) (s:St) (a:Act) (w:World) (fuel:Nat),(OT.st j t alt).ok md ops listed=true->(OT.st j t alt).depth<=fuel+1->QO P T n ops (.st j t alt) s K->Rel P n w0 ow0 s a w->Pinned p a->∀i∈(OT.st j t alt).heads,wpOp P ops Q i (wpAny P md ops Q fuel (listed.setIfInBounds i true)) a w:=by
   intro listed s a w fuel hok hdp h hR hp i hi;simp only[OT.ok,k_Bool_and_eq_true]at hok;simp only[OT.depth]at hdp;unfold QO at h;simp only[OT.heads,aS]at hi;by_cases hij:i=j
   ·subst hij;have h1:=h.1;cases ho:ops[i]? with
    |none=>rw[ho]at h1;exact h1.elim
    |some o=>
     rw[ho]at h1
     have hm:o∈ops.toList:=by
      obtain⟨hlt,he⟩:=bK.1 ho;rw[←he];simp
     exact aEC ho (hd o hm) (DZ hG _ _ _ h1) hR hp fun s' a' w' hK hR' hp'=>iht.2 _ s' a' w' fuel hok.1.1.2 hok.1.2 (by omega) hK hR' hp'
   ·exact iha.1 listed s a w fuel hok.2 (by omega) h.2 hR hp i (hi.resolve_left hij)
  refine⟨hAA,fun listed s a w fuel hc hok hdp h hR hp=> ?_⟩;cases fuel with
  |zero=>simp[OT.depth]at hdp
  |succ fuel=>
   refine⟨fun h0=> ?_,fun i hi=> ?_⟩
   ·simp only[OT.ok,k_Bool_and_eq_true]at hok;have:=hok.1.1.1;rw[h0]at this;simp at this
   ·simp only[OT.cov,aI]at hc;exact hAA listed s a w fuel hok hdp h hR hp i (by simpa using hc i hi)
def aEM (hs:List Nat)(t:OT)(ops:Array Oper):Bool:=
 Region.noSelect ops&&OM .any ops hs (Array.replicate ops.size false)&&
 t.cov .any ops (TW hs (Array.replicate ops.size false))&&t.ok .any ops (TW hs (Array.replicate ops.size false))&&decide (t.depth+hs.length=ops.size)
def ayK (hG:∀t,Good P T t) {s:St}{K:Exit->St->Prop}{id:Nat}{hs:List Nat}{t:OT}(hm:P.follows .mixedOrders=true) (hB:aEM hs t ops=true)
  (h:QM P T n ops hs s fun s'=>QO P T n ops t s' (fun s'=>K .normal s')) (hd:rF p ops.toList=true):OkC P n w0 ow0 p (.region id ops true) s K:=by
 simp only[aEM,k_Bool_and_eq_true,decide_eq_true_eq]at hB;obtain⟨⟨⟨⟨hB1,hB2⟩,hB4⟩,hB5⟩,hB8⟩:=hB;intro a w hR hp Q hQ;refine wp_mono (Q:=fun e a w=>match e with| .normal=>Q .normal a w|_=>False) ?_ fun e a w he=>(by cases e<;>first|exact he|exact he.elim);have hR2:Rel P n w0 ow0 s a {w with drawn:=w.drawn+1}:=by obtain⟨ow,hf⟩:=hR;exact⟨ow,hf.drew⟩
 refine wp_region_any hm ?_;obtain⟨s1,a1,g1,g3,g4,g5⟩:=adN (md:= .any) (ops:=ops) (Q:=fun e a w=>match e with| .normal=>Q .normal a w|_=>False) hG (fun c a w h=>h) (noSelect_spec hB1) (rF.one hd) hs _ _ _ hB2 h hR2 hp;have g6:=g5 t.depth;rw[hB8]at g6;refine g6 ?_;exact(aGM (md:= .any) hG (rF.one hd) (K:=fun s'=>K .normal s') (Q:=fun e a w=>match e with| .normal=>Q .normal a w|_=>False) (fun s' a' w' hK hR' hp'=>hQ _ _ _ _ hK hR' hp') t).2 _ s1 a1 _ _ hB4 hB5 (k_Nat_le_refl _) g1 g3 g4
def wdx [hG:vM P T] {sp:List Nat}{s:St}{K:Exit->St->Prop}{i:Nat}(hs:List Nat) (t:OT) (h:QM P T n ops hs s fun s'=>QO P T n ops t s' (fun s'=> @NA s' ⟨K⟩))
  (hB:aEM hs t ops=true:=by kernel_rfl) (hm:P.follows .mixedOrders=true:=by rfl): @rG _ P T n w0 ow0 p sp ⟨.region i ops true⟩ s ⟨K⟩:=fun hd=>ayK hG.g hm hB h hd
def O1 {Q:Exit->Act->World->Prop}{l2:List Oper}:∀(l:List Oper) (s:St) (K:St->Prop),OkL P n w0 ow0 ops l s K->(∀o∈l,rP p o=true)->∀a w,Rel P n w0 ow0 s a w->Pinned p a->(∀s' a' w',K s'->Rel P n w0 ow0 s' a' w'->Pinned p a'->wpList P ops Q l2 a' w')->wpList P ops Q (l++l2) a w
 |[],s,K,h,_,a,w,hR,hp,hQ=>hQ s a w h hR hp
 |o::l,s,K,h,hd,a,w,hR,hp,hQ=>by
  have hg:=PX hR h;rw[iA];unfold wpList;split
  ·rename_i hw;rw[if_pos hw]at hg;have h1:=hg a w hR (fun a' w'=>∃s',OkL P n w0 ow0 ops l s' K/\Rel P n w0 ow0 s' a' w') Q fun s' a' w' hK hR'=>⟨s',hK,hR'⟩;exact .inl (sU (fun a' w' hh=>by obtain⟨⟨s',hK,hR'⟩,hp'⟩:=hh;exact O1 l s' K hK (fun o ho=>hd o (bG _ ho)) a' w' hR' hp' hQ) (YY hp (hd o (by simp)) h1))
  ·rename_i hw;rw[if_neg hw]at hg;obtain⟨ow,hf⟩:=hR;exact O1 l _ K hg.2 (fun o ho=>hd o (bG _ ho)) _ w ⟨ow,hf.aEU hg.1⟩ (hp.put (hd o (by simp))) hQ
def wtc [hG:vM P T]{sp:List Nat}{s:St}{K:Exit->St->Prop}{i:Nat}(m:Nat)(ts:List Nat)(h:vcL P T n ops (ops.toList.take m) s (fun s'=>vcL P T n ops (ops.toList.drop m) (s'.EG ts) (fun s2=> @NA s2 ⟨K⟩))):
  @rG _ P T n w0 ow0 p sp ⟨.region i ops false⟩ s ⟨K⟩:=fun hd a w hR hp Q hQ=>wp_region_list (by
 have hd':rF p ops.toList=true:=hd
 have:=O1 (Q:=Q) (l2:=ops.toList.drop m) (ops.toList.take m) s _ (DZ hG.g _ _ _ h) (fun o ho=>rF.one hd' o (iR ho)) a w hR hp fun s' a' w' hK hR' hp'=>
  OkL.wp _ _ _ (DZ hG.g _ _ _ hK) (fun o ho=>rF.one hd' o (iQ ho)) a' w' ((PH ts).rel hR') hp' fun s2 a2 w2 hK2 hR2 hp2=>hQ _ _ _ _ hK2 hR2 hp2
 rwa [cZ]at this)
end
attribute [go_sem] QO
section
variable {P:Program}{T:TypeId->TyE}{n:Nat}{ops:Array Oper}{p:Pin}{w0:World}{ow0:Own}
def Ok.mono {o:Oper}{s:St}{K K':St->Prop}(h:Ok P n w0 ow0 o s K)(hK:∀s',K s'->K' s'):Ok P n w0 ow0 o s K':=fun a w hR next Q hn=>h a w hR next Q fun s' a' w' hk hR'=>hn s' a' w' (hK s' hk) hR'
def aG2 (hG:∀t,Good P T t) {sp:List Nat}{s:St}{K:Exit->St->Prop}{i:Nat}(m:Nat) {o:Oper}{l2:List Oper}(ho:ops.toList.drop m=o::l2) (hg:o.guard=none)
  {K1:St->Prop}(h:vcL P T n ops (ops.toList.take m) s K1) (hK1:∀s1,K1 s1->Ok P n w0 ow0 o s1 (fun s2=>vcL P T n ops l2 s2 (fun s3=> @NA s3 ⟨K⟩))):
  @rG _ P T n w0 ow0 p sp ⟨.region i ops false⟩ s ⟨K⟩:=fun hd a w hR hp Q hQ=>wp_region_list (by
 have hd':rF p ops.toList=true:=hd
 have:=O1 (Q:=Q) (l2:=ops.toList.drop m) (ops.toList.take m) s _ (DZ hG _ _ _ h) (fun o ho=>rF.one hd' o (iR ho)) a w hR hp fun s' a' w' hK hR' hp'=>by
  refine OkL.wp (ops.toList.drop m) s' (fun s3=> @NA s3 ⟨K⟩) ?_ (fun o ho=>rF.one hd' o (iQ ho)) a' w' hR' hp' fun s2 a2 w2 hK2 hR2 hp2=>hQ _ _ _ _ hK2 hR2 hp2;rw[ho];unfold OkL gK;rw[hg];exact(hK1 s' hK).mono fun s2 h2=>DZ hG _ _ _ h2
 rwa [cZ]at this)
end
end Go.Dv
end
section
namespace Go
def iE:= @Int.toNat_natCast
def eZ:= @List.getElem?_replicate
end Go
end
section
namespace Go.Dv
open Go.RowKit
variable [kW]
variable {K:Exit->St->Prop}
variable {s:St}{lo:Operand}
variable {a:Act}{x:Operand}
variable {zv:Value}
variable {i:TypeInfo}
variable {v:Value}
section
variable {P:Program}{T:TypeId->TyE}{n:Nat}{ops:Array Oper}{p:Pin}{w0:World}{ow0:Own}
def afF {z:Array Value}{n:Nat}(h:v∈(Builtin.zeroCells z n).toList)(hz:0<z.size):v∈z.toList:=by
 simp only[Builtin.zeroCells,pV,dF,Array.toList_range]at h;obtain⟨i,_,rfl⟩:=h;have hm:i % z.size<z.size:=Nat.mod_lt _ hz;rw[getElem!_pos z _ hm];simp
def R.aAB {w:World}{ow:Own}{e:TypeId}{xs:List D}{l:List Nat}{b cap s:Nat}{C:Array Value}{fz:Nat×Nat}{vs:List Value}{j:Nat}(hb:w.heap[b]?=some (.cells C e fz)) (hone:∀v∈vs,v.oneCell'=true)
  (ho:ow b=some l) (hU:ahO fz C.size) (hC:C.size=cap*s) (hi:P.info? e=some i) (his:i.size=s) (hrow:Rs P w ow xs l 0 C 0 s) (hc1:xs.length<=cap) (hc2:cap<=maxLen) (hj:j<=xs.length) (hv:vs.length=(xs.length-j)*s):
  R P (w.setRow b (C.toList.take (j*s)++vs++C.toList.drop (j*s+vs.length)).toArray) ow (.sl (some e) (xs.take j++List.replicate (xs.length-j) (.any s))) l [.slice (some ⟨b,0,none⟩) xs.length cap]:=by
 have hfit:j*s+vs.length<=C.size:=by
  rw[hv,hC,←Nat.add_mul];exact aU _ (by omega)
 obtain⟨hw,hb',hcs⟩:=Wr.setRow (o:=j*s) (vs:=vs) hb hfit;have hlen:(xs.take j++List.replicate (xs.length-j) (D.any s)).length=xs.length:=by simp;omega
 have hr:=(Rs.iff hb).1 hrow;simp only[R];refine⟨_,_,by rw[hlen],by omega,hc2,.inr (.inr ⟨b,0,s,_,e,fz,rfl,hb',(fun h=>by cases h),(fun t ht=> ?_),(Rs.iff hb').2 fun k x hx=> ?_⟩)⟩
 ·obtain rfl:=k_Option_some_inj ht;have hsz:(C.toList.take (j*s)++vs++C.toList.drop (j*s+vs.length)).toArray.size=C.size:=by simp;omega
  exact⟨ho,rfl,by rw[hsz];exact hU,rfl,by rw[hsz];exact hC,i,hi,his⟩
 ·by_cases hk:k<j
  ·rw[aW (by simp;omega),bA,if_pos hk]at hx;obtain⟨g1,g2⟩:=hr k x hx;refine⟨g1,g2.frame hw ⟨by rw[ho];simp,fun q e=> ?_⟩ ?_⟩
   ·rw[ho]at e;exact suffix_absurd (k_Option_some_inj e)
   ·first
     |exact .inr (.inr (by simp only[bU];rw[g1];have:=aU s (show k+1<=j by omega);rw[k_Nat_add_mul]at this;omega))
     |exact .inr (.inl (by simp only[bU];rw[g1];have:=aU s (show k+1<=j by omega);rw[k_Nat_add_mul]at this;omega))
  ·have hkl:k<xs.length:=by have:=(aD.1 hx).1;rw[hlen]at this;exact this
   rw[aY (by simp;omega),eZ]at hx;split at hx
   ·obtain rfl:=k_Option_some_inj hx
    have hm:(k-j)*s+s<=vs.length:=by
     rw[hv];have:=aU s (show k-j+1<=xs.length-j by omega);rw[k_Nat_add_mul]at this;omega
    refine⟨rfl,_,_,_,(vs.drop ((k-j)*s)).take s,hb',fun m hm2=> ?_,?_⟩
    ·have hm2:m<s:=hm2;have h1:=hcs ((k-j)*s+m) (by omega);rw[bA,if_pos hm2,dR];rw[←h1];congr 1;have:k*s=j*s+(k-j)*s:=by rw[←Nat.add_mul];congr 1;omega
     omega
    ·simp only[R];refine⟨by simp;omega,fun v hv2=>hone v (iQ (iR hv2))⟩
   ·cases hx
def azA {w:World}{e:TypeId}(hi:P.info? e=some i)(hz:i.zero=some zv):(zeroValue e).run P w= .ok zv w:=by simp[zeroValue,typeInfo,hi,hz]
def apV {w:World}{t e ty:TypeId}(ht:P.underlying t=some (.slice e))(a:Option Addr)(cap:Nat):(Builtin.clear_ #[t] ty #[.slice a 0 cap]).run P w= .ok (.tuple #[]) w:=by
 cases a<;>simp[Builtin.clear_,run_underlying ht]
def apW {w w':World}{t e ty:TypeId}(ht:P.underlying t=some (.slice e))(hz:(zeroValue e).run P w= .ok zv w)(a:Addr)(n cap:Nat)(hn:n≠0)(h:(storeCells a (Builtin.zeroCells zv.cells n).toList).run P w= .ok () w'):(Builtin.clear_ #[t] ty #[.slice (some a) n cap]).run P w= .ok (.tuple #[]) w':=by
 obtain⟨m,rfl⟩:∃m,n=m+1:=⟨n-1,by omega⟩;simp[Builtin.clear_,run_underlying ht,hz,h]
def ac0 {w w':World}{o:Oper}{t:TypeId}(ho:o.op= .call {callee:= .builtin .clear,args:= #[x],argTypes:= #[t]})(hv:a.eval x=v)(h:∀ty,(Builtin.clear_ #[t] ty #[v]).run P w= .ok (.tuple #[]) w'):(execOp a.eval o).run P w= .ok (.value (.tuple #[])) w':=by
 unfold execOp;rw[ho];have h0:=fun ty=>h ty;simp[resolve,invoke,builtin,hv,h0]
def av0 {Q:Exit->Act->World->Prop}(hG:∀t,Good P T t) {o1 o2:Oper}{K:St->Prop}{t e:TypeId}{r u j:Nat}{k:IntKind}{xs:List D}(ht:(T t).ty= .sl e) (he:(T e).ok=true) (hew:0<(T e).w) (hg1:o1.guard=none) (hg2:o2.guard=none)
  (ho1:o1.op= .slice t x (some lo) none none) (hd1:o1.dst=some u) (hu:u<n) (ho2:o2.op= .call {callee:= .builtin .clear,args:= #[.tmp u],argTypes:= #[t]}) (hd2:∀v,o2.dst=some v->v<n/\v≠r) (hur:u≠r)
  (hx:evS s x= .al r []) (hs:s r= .own (.sl (some e) xs)) (hlo:evS s lo= .val (.one (.int k j))) (hj:j<=xs.length) (hn1:rP p o1=true) (hn2:rP p o2=true)
  (hK:K ((((s.set u .un).kill r).put r (.own (.sl (some e) (xs.take j++List.replicate (xs.length-j) (.any (T e).w))))).jH o2.dst (.tup [])))
  {w:World}(hR:Rel P n w0 ow0 s a w) (hp:Pinned p a) (hQ:∀s' a' w',K s'->Rel P n w0 ow0 s' a' w'->Pinned p a'->Q .normal a' w'):wpList P ops Q [o1,o2] a w:=by
 obtain⟨ow,hf⟩:=hR;have hsl:=(hG t).desc ht (by simp);obtain⟨_,i,zv,hi,his,hz,hflat,_,_,_,hzw⟩:=(hG e).of (fun y hy e2=>by subst e2;unfold TyE.ok at he;rw[hy]at he;cases he);have hu6:u<1000000:=dW hu hf.small
 have hval:a.eval x=aval a r:=by
  have hv:=hf.eval x;rw[hx]at hv;obtain⟨_,_,_,_,_,h4⟩:=hv;rcases h4 with⟨_,h4⟩|⟨b,off,h4,_⟩
  ·exact h4
  ·simp[loc]at h4
 have hV:=hf.slot r;rw[hs]at hV;simp only[SV,V,R]at hV;obtain⟨ad,cap,hv,hc1,hc2,h4⟩:=hV;have hv:aval a r= .slice ad xs.length cap:=by simpa using hv
 have hlov:a.eval lo= .int k j:=(hf.one hlo).1;obtain⟨v1,hv1⟩:∃v1,v1=Value.slice (if cap=j then ad else ad.map (·.add (j*i.size))) (xs.length-j) (cap-j):=⟨_,rfl⟩
 have hrun1:(execOp a.eval o1).run P w= .ok (.value v1) w:=by
  unfold execOp;rw[ho1];simp only[hval,hv,Instr.sliceAt,Instr.slice,aH,run_underlying hsl w,aG,lI];have hbr:=RZ (P:=P) (w:=w) (a:=a) (lo:=some lo) (hi:=none) (isS:=true) (len:=xs.length) (cap:=cap) (.inr ⟨lo,k,j,rfl,hlov,by omega,iE j⟩) (.inl ⟨rfl,rfl⟩) hj hc1;simp only[lI]at hbr;rw[hbr];simp only[aG,DY hi w,aP,hv1]
 have hf1:Fits P n w0 ow0 ow (s.set u .un) (a.put (some u) v1) w:=hf.set hu trivial;have hp1:Pinned p (a.put (some u) v1):=by rw[←hd1];exact hp.put hn1
 have hev:(a.put (some u) v1).eval (.tmp u)=v1:=by simp[Act.eval,Act.put,hf.size,hu]
 have hav:aval (a.put (some u) v1) r= .slice ad xs.length cap:=by rw[zO hf.size hf.small hu,if_neg (k_Ne_symm hur),hv]
 have hs1:(s.set u .un) r= .own (.sl (some e) xs):=by
  rw[St.set];simp only[St.put,if_neg (k_Ne_symm hur)];rw[free_own (by rw[hs];rfl) (k_Ne_symm hur),hs]
 have key:∃w2 ow2,(execOp (a.put (some u) v1).eval o2).run P w= .ok (.value (.tuple #[])) w2/\Fits P n w0 ow0 ow2 (((s.set u .un).kill r).put r (.own (.sl (some e) (xs.take j++List.replicate (xs.length-j) (.any (T e).w))))) (a.put (some u) v1) w2:=by
  have hrf:r≠far0:=fun e=>by have:=hf.far;rw[←e,hs]at this;cases this
  by_cases hjl:xs.length-j=0
  ·refine⟨w,ow,?_,?_⟩
   ·exact ac0 ho2 hev fun ty=>by rw[hv1,hjl];exact apV hsl _ _
   ·have hxs:xs.take j++List.replicate (xs.length-j) (D.any (T e).w)=xs:=by rw[hjl];simp;exact k_List_take_of_length_le (by omega)
    rw[hxs];refine hf1.change hf1.nodef hf1.size rfl rfl rfl (k_Nat_le_refl _) (fun b _ h=>⟨rfl,h⟩) hf1.new (fun k=>k=r) (fun k _ b _ q hq=>⟨rfl,hq⟩) (fun k hk=>⟨rfl,?_⟩) ?_ (fun e=>hrf e.symm)
    ·have hkr:k≠r:=hk;simp only[St.put,if_neg hkr];rcases uA (s.set u .un) r k with h1|⟨h1,_,h2⟩
     ·exact .inl h1
     ·refine .inr ⟨h1,fun m hm=> ?_⟩;have hmr:m≠r:=by rintro rfl;exact h2 hm
      exact⟨hmr,by simp only[if_neg hmr];exact sV ((hf1.slot k).root hm) hmr⟩
    ·rintro k rfl;have:=hf1.slot k;rw[hs1]at this;simp only[St.put,if_true];exact this
  ·rcases h4 with⟨_,h4,_⟩|⟨h4,_⟩|⟨b,off,sz,C,e',fz,rfl,hb,_,h5,hrow⟩
   ·rw[h4]at hjl;simp at hjl
   ·cases h4
   obtain⟨hob,rfl,hU,rfl,hC,i',hi',his'⟩:=h5 e rfl;obtain rfl:i=i':=by rw[hi]at hi';exact k_Option_some_inj hi'
   have hcj:cap≠j:=by omega
   have hzl:zv.cells.size=i.size:=by
    have h1:=(R.zf (P:=P) (w:=w) (ow:=ow) (l:=[]) hflat).len;rw[iY,hzw,←his]at h1;exact h1
   obtain⟨vs,hvs⟩:∃vs,vs=(Builtin.zeroCells zv.cells (xs.length-j)).toList:=⟨_,rfl⟩;have hvl:vs.length=(xs.length-j)*sz:=by rw[hvs,iY,size_zeroCells,hzl,his']
   have hone:∀v∈vs,v.oneCell'=true:=fun v hv=>(R.zf (P:=P) (w:=w) (ow:=ow) (l:=[]) hflat).ND v (afF (by rw[←hvs];exact hv) (by rw[hzl,his];exact hew))
   have hfit:0+j*sz+0+vs.length<=C.size:=by
    rw[hvl,hC];have:=aU sz (show j+(xs.length-j)<=cap by omega);rw[k_Nat_add_mul]at this;omega
   have hst:=wY P b (0+j*sz) e fz vs 0 C w hb hU hfit hone;have hct:=R.aAB (P:=P) hb hone hob hU hC hi his' hrow hc1 hc2 hj hvl;simp only[bU,kE]at hst
   refine⟨_,ow,ac0 ho2 hev fun ty=>by
    rw[hv1,if_neg hcj]
    exact apW hsl (azA hi hz) _ _ _ hjl (by
     rw[←hvs];have hadd:(⟨b,0,none⟩:Addr).add (j*i.size)=⟨b,j*sz,none⟩:=by rw[his'];unfold Addr.add;split<;>simp_all
     show(storeCells ((⟨b,0,none⟩:Addr).add (j*i.size)) vs).run P w=_;rw[hadd];exact hst),?_⟩
   have hfit':j*sz+vs.length<=C.size:=by omega
   obtain⟨hw,hb',_⟩:=Wr.setRow (o:=j*sz) (vs:=vs) hb hfit';obtain⟨e1,e2,e3,e4⟩:=anC (w:=w) (b:=b) (C:=(C.toList.take (j*sz)++vs++C.toList.drop (j*sz+vs.length)).toArray)
   have hob2:∀k,k≠r->∀b2 q,ow b2=some (q++[k])->b2=b->False:=fun k hk b2 q hq e=>by
    rw[e,hob]at hq;have:=congrArg List.getLast? (k_Option_some_inj hq);simp at this;exact hk this.symm
   refine hf1.change hf1.nodef hf1.size e1 e2 e3 (Nat.le_of_eq e4.symm) (fun b2 hb2 ho=>⟨hw.other b2 (fun e=>by rw[e,hob]at ho;cases ho),ho⟩) (fun b2 hb2=>hf1.new b2 (by rw[e4]at hb2;exact hb2)) (fun k=>k=r) (fun k hk b2 hb2 q hq=>⟨hw.other b2 (fun e=>hob2 k hk b2 q hq e),hq⟩) (fun k hk=>⟨rfl,?_⟩) ?_ (fun e=>hrf e.symm)
   ·have hkr:k≠r:=hk;simp only[St.put,if_neg hkr];rcases uA (s.set u .un) r k with h1|⟨h1,_,h2⟩
    ·exact .inl h1
    ·refine .inr ⟨h1,fun m hm=> ?_⟩;have hmr:m≠r:=by rintro rfl;exact h2 hm
     exact⟨hmr,by simp only[if_neg hmr];exact sV ((hf1.slot k).root hm) hmr⟩
   ·rintro k rfl;simp only[St.put,if_true,SV,V];rw[hav,←his,his'];exact hct
 obtain⟨w2,ow2,hrun2,hf2⟩:=key;have hp2:∀v,Pinned p ((a.put (some u) v1).put o2.dst v):=fun v=>hp1.put hn2;unfold wpList;rw[if_pos (by simp[Region.wanted,hg1])];left;unfold Oper.wp;rw[hrun1];simp only[Oper.upon,hd1];unfold wpList;rw[if_pos (by simp[Region.wanted,hg2])];left;unfold Oper.wp;rw[hrun2];simp only[Oper.upon];unfold wpList;refine hQ _ _ _ hK ?_ (hp2 _);cases hod:o2.dst with
 |none=>exact⟨ow2,hf2⟩
 |some v=>exact⟨ow2,hf2.set (hd2 v hod).1 ⟨#[],rfl,rfl,fun k x hx=>by simp at hx⟩⟩
def aE9 [hG:vM P T] {sp:List Nat}{i:Nat}(m:Nat) {o1 o2:Oper}{t e u:Nat}
  (h:vcL P T n ops (ops.toList.take m) s (fun s1=>match evS s1 x with
   | .al r []=>(match s1 r with
    | .own (.sl (some e') xs)=>e'=e/\WG (evS s1 lo) fun j=>0<=j/\j<=xs.length/\u≠r/\ @NA (((s1.set u .un).kill r).put r (.own (.sl (some e) (xs.take j.toNat++List.replicate (xs.length-j.toNat) (.any (T e).w))))) ⟨K⟩
    |_=>False)
   |_=>False))
  (ho:ops.toList.drop m=[o1,o2]:=by rfl) (ho1:o1.op= .slice t x (some lo) none none:=by rfl) (ht:(T t).ty= .sl e:=by rfl) (he:(T e).ok=true:=by rfl) (hew:0<(T e).w:=by decide) (hg1:o1.guard=none:=by rfl) (hg2:o2.guard=none:=by rfl)
  (hd1:o1.dst=some u:=by rfl) (hu:u<n:=by decide) (ho2:o2.op= .call {callee:= .builtin .clear,args:= #[.tmp u],argTypes:= #[t]}:=by rfl) (hd2:o2.dst=none:=by rfl): @rG _ P T n w0 ow0 p sp ⟨.region i ops false⟩ s ⟨K⟩:=fun hd a w hR hp Q hQ=>wp_region_list (by
 have hd':rF p ops.toList=true:=hd
 have:=O1 (Q:=Q) (l2:=ops.toList.drop m) (ops.toList.take m) s _ (DZ hG.g _ _ _ h) (fun o ho=>rF.one hd' o (iR ho)) a w hR hp fun s' a' w' hK hR' hp'=>by
  have hn1:rP p o1=true:=rF.one hd' o1 (iQ (by rw[ho];simp));have hn2:rP p o2=true:=rF.one hd' o2 (iQ (by rw[ho];simp));rw[ho];split at hK
  rotate_left
  ·exact hK.elim
  rename_i r hx;split at hK
  rotate_left
  ·exact hK.elim
  rename_i e' xs hs;obtain⟨rfl,hK⟩:=hK;obtain⟨k,j,hj,h1,h2,h3,h4⟩:=zZ hK;refine av0 hG.g (j:=j.toNat) ht he hew hg1 hg2 ho1 hd1 hu ho2 (fun v hv=>by rw[hd2]at hv;cases hv) h3 hx hs (by rw[hj,Int.toNat_of_nonneg h1]) (by omega) hn1 hn2 ?_ hR' hp' fun s2 a2 w2 hK2 hR2 hp2=>hQ .normal s2 a2 w2 hK2 hR2 hp2;rw[hd2];exact h4
 rwa [cZ]at this)
def aCE {o:Oper}{K:St->Prop}{t t' e:TypeId}{xs:List D}(ht:P.underlying t=some (.slice e)) (ho:o.op= .binOp .eql t x (.const (.slice none 0 0)) t') (hd:dstOk n o=true) (hx:asSl s (slotOf x) (evS s x)= .fr xs)
  (h1:xs=[]->K (s.jH o.dst (.val (.one (.bool true))))) (h2:K (s.jH o.dst (.val (.one (.bool false))))):Ok P n w0 ow0 o s K:=by
 refine iD fun a w ow hf=> ?_
 have fin:∀r:Bool,Rel P n w0 ow0 (s.jH o.dst (.val (.one (.bool r)))) (a.put o.dst (.bool r)) w:=fun r=>⟨ow,by
  cases hod:o.dst with
  |none=>exact hf
  |some t=>
   have ht:t<n:=by simpa[dstOk,hod]using hd
   exact hf.set ht (SV.yQ rfl)⟩
 have hv:=hf.asSl x;rw[hx]at hv;simp only[zL]at hv
 have hemp:∀(a0:Option Addr) m c,a.eval x= .slice a0 m c->a0=none->xs=[]:=fun a0 m c e0 hn=>by
  by_cases hne:xs=[]
  ·exact hne
  ·have h3:=zL.hdr (s:=s) (a:=a) (z:= .fr xs) (by simpa only[zL]using hv) (by simp) (by simpa[SLv.xs]using hne);obtain⟨ad,m',c',h4⟩:=h3;rw[e0,hn]at h4;cases h4
 obtain⟨ad,cap,hval,hcap,_⟩:=hv.hdr;have ev:a.eval (.const (.slice none 0 0))= .slice none 0 0:=rfl
 have e2:∀m c,(Op.equal t (.slice ad m c) (.slice none 0 0)).run P w= .ok ad.isNone w:=fun m c=>by
  unfold Op.equal Op.maxDepth Op.equalIn;rw[aH,run_underlying ht w];cases ad<;>rfl
 refine⟨.bool ad.isNone,w,?_,_,?_,fin _⟩
 ·unfold execOp;rw[ho];simp only[hval,ev];have hg:∀m c,(eqGuard .eql t x (.const (.slice none 0 0)) (.slice ad m c) (.slice none 0 0)).run P w= .ok () w:=fun m c=>rfl;simp only[aH,hg,aG,binOp,e2,aP];try rfl
 ·cases had:ad with
  |none=>exact h1 (hemp _ _ _ hval had)
  |some _=>exact h2
def aGQ [hG:vM P T] {sp:List Nat}{i:Nat}(m:Nat) {o:Oper}{l2:List Oper}{t t' e u:Nat}
  (h:vcL P T n ops (ops.toList.take m) s (fun s1=>∃xs,asSl s1 (slotOf x) (evS s1 x)= .fr xs/\(xs=[]->vcL P T n ops l2 (s1.set u (.val (.one (.bool true)))) (fun s3=> @NA s3 ⟨K⟩))/\vcL P T n ops l2 (s1.set u (.val (.one (.bool false)))) (fun s3=> @NA s3 ⟨K⟩)))
  (ho:ops.toList.drop m=o::l2:=by rfl) (hop:o.op= .binOp .eql t x (.const (.slice none 0 0)) t':=by rfl) (ht:(T t).ty= .sl e:=by rfl) (hg:o.guard=none:=by rfl) (hdst:o.dst=some u:=by rfl) (hu:u<n:=by decide): @rG _ P T n w0 ow0 p sp ⟨.region i ops false⟩ s ⟨K⟩:=by
 refine aG2 hG.g m ho hg h fun s1 ⟨xs,h1,h2,h3⟩=>aCE ((hG.g t).desc ht (by simp)) hop (dstOk_of fun v hv=>by rw[hdst]at hv;cases hv;exact hu) h1 ?_ ?_
 ·rw[hdst];exact h2
 ·rw[hdst];exact h3
end
def S.aD2:S->S
 | .own d=> .val d
 | .tup l=> .tup (l.map fun x=>match x with| .own d=> .val d|x=>x)
 |x=>x
def ak0 {w:World}{ow:Own}(hn:∀b,w.heap.size<=b->ow b=none):∃t,t≠far0/\∀b q,ow b≠some (q++[t]):=by
 have key:∀n,∃m,∀b,b<n->∀q t,ow b=some (q++[t])->t<m:=by
  intro n
  induction n with
  |zero=>exact⟨0,fun b hb=>by omega⟩
  |succ n ih=>
   obtain⟨m,hm⟩:=ih;cases ho:ow n with
   |none=>exact⟨m,fun b hb q t h=>by
     by_cases hbn:b=n
     ·rw[hbn,ho]at h;cases h
     ·exact hm b (by omega) q t h⟩
   |some l=>exact⟨m+l.foldl max 0+1,fun b hb q t h=>by
     by_cases hbn:b=n
     ·rw[hbn,ho]at h;obtain rfl:=k_Option_some_inj h;rw[lU];simp only[k_List_foldl_cons,List.foldl_nil];omega
     ·have:=hm b (by omega) q t h;omega⟩
 obtain⟨m,hm⟩:=key w.heap.size;refine⟨m+far0+1,by omega,fun b q h=> ?_⟩
 have hb:b<w.heap.size:=by
  by_cases hb:b<w.heap.size
  ·exact hb
  ·rw[hn b (by omega)]at h;cases h
 have:=hm b hb q _ h;omega
open Classical in
def fP.aD2 {P:Program}{f:FuncId}{ds:List D}{R:S}(h:fP P f ds (fun r=>r=R)):fP P f ds (fun r=>r=R.aD2):=by
 intro w ow vs t ht hL hn hsz ha;obtain⟨u,hu,hfr⟩:=ak0 hn;refine(h w ow vs u hu hL hn hsz ha).mono ?_;rintro e w' ⟨v,ow',r,rfl,rfl,hA,hp,hsv⟩
 have hF:∀l,M0 w' ow' (l++[u]) (fun b=>if∃q,ow' b=some (q++[u])then none else ow' b):=fun l b _=>⟨fun ho=>by
  simp only;split
  ·rfl
  ·exact ho,fun q hq=>by
  simp only;rw[if_pos ⟨q++l,by rw[hq];simp⟩]⟩
 refine⟨v,fun b=>if∃q,ow' b=some (q++[u])then none else ow' b,_,rfl,rfl,⟨hA.os,hA.tape,hA.output,hA.size,fun b hb=>⟨(hA.old b hb).1,?_⟩,fun b hb=> ?_⟩,?_,fun s a=> ?_⟩
 ·rw[if_neg,(hA.old b hb).2];rintro⟨q,hq⟩;rw[(hA.old b hb).2]at hq;exact hfr b q hq
 ·rw[if_neg,hA.new b hb];rintro⟨q,hq⟩;rw[hA.new b hb]at hq;cases hq
 ·cases r<;>first|rfl|exact hp
 ·have hv:=hsv s a;have hno:∀b,ow' b=none->(if∃q,ow' b=some (q++[u])then none else ow' b)=none:=fun b ho=>by split;rfl;exact ho
  have hval:∀(d:D) (v:Value),V P w' ow' d.fz [] v->V P w' (fun b=>if∃q,ow' b=some (q++[u])then none else ow' b) d.fz [] v:=fun d v hv=>V.trf (fun b _ ho=>⟨rfl,hno b ho⟩) hv;cases r with
  |own d=>exact V.fz (hF []) hv
  |val d=>exact hval d v hv
  |un=>trivial
  |tup l=>
   obtain⟨ys,h1,h2,h3⟩:=hv;refine⟨ys,h1,by simpa using h2,fun k x hx=> ?_⟩;simp only[aN,aK]at hx;obtain⟨y,hy,rfl⟩:=hx;have:=h3 k y hy;cases y with
   |own d=>exact V.fz (hF [k]) this
   |val d=>exact hval d _ this
   |_=>trivial
  |rp d=>
   obtain⟨b,off,h1,h2,h3⟩:=hv;exact⟨b,off,h1,hno b h2,h3.trf (fun b _ ho=>⟨rfl,hno b ho⟩) h2⟩
  |al r p=>cases hp
  |rf r p=>cases hp
  |ag r p=>cases hp
end Go.Dv
end
section
namespace Go
def xR:= @List.flatMap_cons
end Go
end
section
namespace Go.Pl
open Go.Dv
def iL (c:UInt8):UInt8:=if 65<=c.toNat/\c.toNat<=90 then c+32 else c
def vG (s:Str):Str:=s.map iL
def wL (c:UInt8):Bool:=(decide (97<=c.toNat)&&decide (c.toNat<=122))||(decide (65<=c.toNat)&&decide (c.toNat<=90))||(decide (48<=c.toNat)&&decide (c.toNat<=57))
def AQ (c:UInt8):Str:=if wL c=true\/c.toNat=32 then[c]else if c.toNat≠39 then[32]else[]
def xZ (s:Str):Str:=s.flatMap AQ
def qQ (s:Str)(i:Nat)(o:Str):Str:=if(s.getD i 0).toNat=32 then o else(if 0<o.length/\(s.getD (i-1) 0).toNat=32 then o++[32]else o)++[s.getD i 0]
def C8 (s:Str):Str:=loopN s.length [] (qQ s)
def normal (s:Str):Str:=C8 (xZ (vG s))
variable {c:UInt8}
def abN (h1:65<=c.toNat)(h2:c.toNat<=90):(iL c).toNat=c.toNat+32:=by
 unfold iL;rw[if_pos ⟨h1,h2⟩,UInt8.toNat_add];simp;omega
def P6 (h:¬(65<=c.toNat/\c.toNat<=90):=by omega):iL c=c:=if_neg h
def BX (s:Str):(vG s).length=s.length:=by simp[vG]
def ap6 (c:UInt8):(AQ c).length<=1:=by
 unfold AQ;split<;>simp;split<;>simp
def GQ (s:Str):(xZ s).length<=s.length:=by
 unfold xZ
 induction s with
 |nil=>simp
 |cons c s ih=>have:=ap6 c;simp only[xR,aO,aR];omega
def UO (s:Str):(C8 s).length<=2*s.length:=by
 refine loopN_inv (fun i (o:Str)=>o.length<=2*i) (by simp) fun i o _ ho=> ?_;unfold qQ;split
 ·omega
 ·split<;>simp<;>omega
variable {i:Nat}
def aiA {α β:Type}(f:α->List β){l:List α}{c:α}(h:l[i]?=some c):(l.take (i+1)).flatMap f=(l.take i).flatMap f++f c:=by rw[dX h];simp
def WA {s:Str}(h:s[i]?=some c):s.getD i 0=c:=by simp[aC,h]
end Go.Pl
namespace Go.Pl
open Go.Dv
def R8 (c:UInt8)(p:Str):Str->List Str
 |[]=>[p]
 |d::s=>if d=c then p::R8 c [] s else R8 c (p++[d]) s
def acR (c:UInt8)(s:Str):List Str:=R8 c [] s
def NG (c:UInt8):∀(s p:Str),(R8 c p s).length<=s.length+1/\∀x∈R8 c p s,x.length<=p.length+s.length
 |[],p=>by simp[R8]
 |d::s,p=>by
  unfold R8;split
  ·have⟨h1,h2⟩:=NG c s [];refine⟨by simp;omega,fun x hx=> ?_⟩;rcases aS.1 hx with rfl|hx
   ·omega
   ·have:=h2 x hx;simp at this|-;omega
  ·have⟨h1,h2⟩:=NG c s (p++[d]);refine⟨by simp;omega,fun x hx=> ?_⟩;have:=h2 x hx;simp at this|-;omega
def akG (c:UInt8)(s:Str):(acR c s).length<=s.length+1/\∀x∈acR c s,x.length<=s.length:=by
 have⟨h1,h2⟩:=NG c s [];exact⟨h1,fun x hx=>by have:=h2 x hx;simpa using this⟩
def codeOf (d:Nat):Int:=if d=98\/d=102\/d=112\/d=118 then 1 else if d=99\/d=103\/d=106\/d=107\/d=113\/d=115\/d=120\/d=122 then 2 else if d=100\/d=116 then 3 else if d=108 then 4 else if d=109\/d=110 then 5 else if d=114 then 6 else if d=97\/d=101\/d=105\/d=111\/d=117\/d=121 then 0 else if d=104\/d=119 then -1 else -2
def aM (c:UInt8):Int:=codeOf (iL c).toNat
def XG (c:UInt8): -2<=aM c/\aM c<=6:=by
 unfold aM codeOf;repeat(first|omega|split)
def vD (s:Str×Int)(c:UInt8):Str×Int:=if s.1=[]then([iL c],aM c)else(if aM c>0/\aM c≠s.2/\s.1.length<4 then s.1++[UInt8.ofNat (48+aM c).toNat]else s.1,if 0<=aM c then aM c else s.2)
def aa5 (o:Str):Str:=o++List.replicate (4-o.length) 48
def jD (s:Str):Str:=if s=[]\/s.all (fun c=>decide (aM c≠ -2))=false then[]else aa5 (s.foldl vD ([],0)).1
end Go.Pl
end
section
namespace Go
def nT:= @List.takeWhile_prefix
end Go
end
section
namespace Go.Pl
open Go.Dv
def BD (l:List Str)(x:Str):Nat:=(l.takeWhile fun y=>ltL y x).length
def jP (l:List Str)(x:Str)(again:Bool):List Str:=if !again&&decide (l[BD l x]?=some x)then l else l.take (BD l x)++[x]++l.drop (BD l x)
def azS (l:List Str)(x:Str):BD l x<=l.length:=by
 unfold BD;exact(nT _).length_le
def rT (l:List Str)(x:Str)(b:Bool):(jP l x b).length<=l.length+1:=by
 have:=azS l x;unfold jP;split
 ·omega
 ·simp;omega
def xA (t:List Str)(x:Str):List Str:=if x≠[]then jP t x false else t
def tokens (s:Str):List Str:=(acR 32 (normal s)).foldl xA []
def anT (t:List Str)(x:Str):(xA t x).length<=t.length+1:=by
 unfold xA;split
 ·exact rT _ _ _
 ·omega
def wU (t:List Str)(x:Str):List Str:=if jD x≠[]then jP t (jD x) false else t
def lY (s:Str):List Str:=(tokens s).foldl wU []
def Q5 (c:Str):Bool:=decide (c≠[])&&c.all wL&&decide (vG c=c)
def pR (l:List Str):Bool:=l.all Q5&&adj ltL l
def vL (a b:List Str):Bool:=pR a&&pR b
def G7 (b:List Str)(t:List Str)(x:Str):List Str:=if b.any (fun y=>decide (y=x))=true then jP t x false else t
def common (a b:List Str):List Str:=a.foldl (G7 b) []
def xB (t:List Str)(x:Str):List Str:=jP t x false
def XN (a b:List Str):List Str:=b.foldl xB (a.foldl xB [])
def AA (a b:List Str):Int:=if vL a b=true then ratio (common a b).length (XN a b).length else 0
def tJ (a b:List Str):Int:=if a=[]\/b=[]then 0 else AA a b
def mP (a b c:Int):Int:=if inR a 0 9999=true/\inR b 0 9999=true/\inR c 1 9999=true then(if max a b-min a b>=c then 0 else(1000*(c-(max a b-min a b))).tdiv c)else 0
def digits (s:Str):Str:=s.filter fun c=>decide (48<=c.toNat/\c.toNat<=57)
def FC {α β:Type}(f:List α->β->List α)(h:∀t x,(f t x).length<=t.length+1):∀(l:List β) (t:List α),(l.foldl f t).length<=t.length+l.length
 |[],t=>by simp
 |x::l,t=>by have:=FC f h l (f t x);have:=h t x;simp only[k_List_foldl_cons,aR];omega
end Go.Pl
end
section
namespace Go
def bN:= @List.drop_eq_getElem_cons
def dZ:= @List.length_singleton
end Go
end
section
namespace Go.Pl
open Go.Dv
def chr (s:Str)(i:Nat):UInt8:=s.getD i 0
variable {i:Nat}
def zQ {s:Str}(h:i<s.length:=by omega):s[i]?=some (chr s i):=by
 obtain⟨c,hc⟩:=aQ h;rw[chr,WA hc];exact hc
def edOne (x y:Str)(T:L2)(i:Nat)(r:L1)(j:Nat):Int:=
 if i=0 then j else if j=0 then i else if chr x (i-1)=chr y (j-1)then at2 T (i-1) (j-1)else 1+min (min (at2 T (i-1) j) (at1 r (j-1))) (at2 T (i-1) (j-1))
def vK (x y:Str)(tr:Bool)(i j:Nat):Bool:=tr&&decide (i>1)&&decide (j>1)&&decide (chr x (i-1)=chr y (j-2))&&decide (chr x (i-2)=chr y (j-1))
def af6 (x y:Str)(tr:Bool)(T:L2)(i j:Nat)(r:L1):L1:=if vK x y tr i j=true then r.set j (min (at1 r j) (at2 T (i-2) (j-2)+1))else r
def FL (x y:Str)(tr:Bool)(T:L2)(i j:Nat)(r:L1):L1:=af6 x y tr T i j (r.set j (edOne x y T i r j))
def acX (x y:Str)(tr:Bool)(i:Nat)(T:L2):L1:=loopN (y.length+1) (List.replicate (y.length+1) 0) (FL x y tr T i)
def PW (x y:Str)(tr:Bool):L2:=loopN (x.length+1) [] fun i T=>T++[acX x y tr i T]
def ah8 (n k i:Nat)(r:L1):Prop:=r.length=n/\∀j<k,0<=at1 r j/\at1 r j<=i+j
def Z6 (n:Nat)(T:L2):Prop:=∀i<T.length,ah8 n n i (T.getD i [])
variable {n j:Nat}
def D5 {T:L2}(h:Z6 n T)(hi:i<T.length)(hj:j<n):∃r,T[i]?=some r/\r[j]?=some (at2 T i j)/\0<=at2 T i j/\at2 T i j<=i+j:=by
 obtain⟨r,hr⟩:=aQ hi;have h1:=h i hi;rw[aC,hr]at h1;obtain⟨h2,h3⟩:=h1;simp only[Option.getD_some]at h2 h3;have h4:=aV (l:=r) (i:=j);have h5:at2 T i j=at1 r j:=by simp[at2,at1,aC,hr]
 exact⟨r,hr,by rw[h5];exact h4,by rw[h5];exact(h3 j hj).1,by rw[h5];exact(h3 j hj).2⟩
variable {r:L1}{v:Int}
def yI (k:Nat)(hj:j<r.length):at1 (r.set j v) k=if j=k then v else at1 r k:=by
 simp only[at1,aC,jT];by_cases h:j=k
 ·subst h;simp[hj]
 ·simp[h]
def UX {k:Nat}(h:ah8 n k i r)(hk:k<n)(h1:0<=v)(h2:v<=i+k):ah8 n (k+1) i (r.set k v):=by
 refine⟨by simp[h.1],fun j hj=> ?_⟩;rw[yI _ (by rw[h.1];exact hk)];split
 ·omega
 ·exact h.2 j (by omega)
def aeX {T:L2}(h:Z6 n T)(hr:ah8 n n T.length r):Z6 n (T++[r]):=by
 intro i hi;simp only[aO,dZ]at hi;rw[aC];by_cases h1:i<T.length
 ·rw[aW h1];have:=h i h1
  rwa [aC]at this
 ·obtain rfl:i=T.length:=by omega
  simp;exact hr
variable {x y:Str}
def aC4 {T:L2}(hT:T.length=i)(h4:Z6 n T)(hr:ah8 n j i r)(hj:j<n)(hi:0<=(i:Int)):0<=edOne x y T i r j/\edOne x y T i r j<=i+j:=by
 unfold edOne;split
 ·omega
 ·split
  ·omega
  ·obtain⟨q,hq,hqj,hb1,hb2⟩:=D5 h4 (i:=i-1) (j:=j-1) (by omega) (by omega);obtain⟨q',hq',hqk,hb3,hb4⟩:=D5 h4 (i:=i-1) (j:=j) (by omega) (by omega);have hb5:=hr.2 (j-1) (by omega);split
   ·omega
   ·omega
def asO {tr:Bool}{T:L2}(hT:T.length=i)(h4:Z6 n T)(hr:ah8 n j i r)(hj:j<n):ah8 n (j+1) i (FL x y tr T i j r):=by
 have hve:=aC4 (x:=x) (y:=y) hT h4 hr hj (by omega);have h1:=UX hr hj hve.1 hve.2;unfold FL af6;generalize r.set j (edOne x y T i r j)=r' at h1|-
 split
 ·next hw=>
  simp only[vK,k_Bool_and_eq_true,decide_eq_true_eq]at hw;obtain⟨q,hq,hqj,hb1,hb2⟩:=D5 h4 (i:=i-2) (j:=j-2) (by omega) (by omega);have hb3:=h1.2 j (by omega);exact UX ⟨h1.1,fun j' hj'=>h1.2 j' (by omega)⟩ hj (by omega) (by omega)
 ·exact h1
def acY (x y:Str)(tr:Bool):(PW x y tr).length=x.length+1/\Z6 (y.length+1) (PW x y tr):=by
 refine loopN_inv (fun i (T:L2)=>T.length=i/\Z6 (y.length+1) T) ⟨rfl,fun i hi=>by simp at hi⟩ fun i T hi ⟨h1,h2⟩=>⟨by simp[h1],aeX h2 ?_⟩;rw[h1];exact loopN_inv (fun j r=>ah8 (y.length+1) j i r) ⟨by simp,by omega⟩ fun j r hj hr=>asO h1 h2 hr hj
def FK (x y:Str):Bool:=decide (x.length<=40)&&decide (y.length<=40)
def qK (x y:Str):Int:=if FK x y=true then at2 (PW x y false) x.length y.length else -1
def af5 (x y:Str): -1<=qK x y/\qK x y<=80:=by
 unfold qK;split
 ·next h=>
  simp only[FK,k_Bool_and_eq_true,decide_eq_true_eq]at h;have h1:=acY x y false;obtain⟨q,hq,hqj,hb1,hb2⟩:=D5 h1.2 (i:=x.length) (j:=y.length) (by omega) (by omega);omega
 ·omega
def wP (x y:Str):Int:=if qK x y<0 then 0 else if max (x.length:Int) y.length=0 then 1000 else(1000*(max (x.length:Int) y.length-qK x y)).tdiv (max (x.length:Int) y.length)
def pI (x y:Str):Int:=if normal x=[]\/normal y=[]then 0 else wP (normal x) (normal y)
def J4 {a b:Int}(h1: -9000000000000000000<=a:=by omega)(h:a<=9000000000000000000:=by omega):inI .i64 (a.tdiv b):=by
 have:=Int.natAbs_tdiv_le_natAbs a b;simp only[inI];omega
end Go.Pl
namespace Go.Pl
open Go.Dv
def nZ (m:Nat):Str:=if h:m=0 then[]else nZ (m/10)++[UInt8.ofNat (48+m % 10)]
termination_by m
decreasing_by omega
def wI {m:Nat}(h:m≠0):nZ m=nZ (m/10)++[UInt8.ofNat (48+m % 10)]:=by rw[nZ,dif_neg h]
def wJ:nZ 0=[]:=by rw[nZ];simp
def xL (n:Int):Str:=if n=0 then[48]else(if n<0 then[45]else[])++nZ n.natAbs
def TN (m k:Nat)(h:m<10^k):(nZ m).length<=k:=by
 induction k generalizing m with
 |zero=>
  have:m=0:=by simpa using h
  subst this;simp[wJ]
 |succ k ih=>
  by_cases h0:m=0
  ·subst h0;simp[wJ]
  ·rw[wI h0];have:=ih (m/10) (by rw[Nat.pow_succ]at h;omega);simp;omega
end Go.Pl
namespace Go.Pl
open Go.Dv
def IK (st:Int×Int)(c:UInt8):Int×Int:=if 48<=c.toNat/\c.toNat<=57 then(st.1*10+(c.toNat-48),st.2+1)else st
def tC (s:Str):Int×Int:=(s.take 11).foldl IK (0,0)
def lJ (s:Str):Int:=if s[0]?=some 45 then-(tC s).1 else(tC s).1
def nA (s:Str):Bool:=decide ((tC s).2<=9)&&decide (s.length<=10)&&decide (xL (lJ s)=s)
def iW (s:Str):Int:=if nA s=true/\inR (lJ s) 1000 9999=true then lJ s else 0
end Go.Pl
namespace Go.Pl
open Go.Dv
def shared:Str->Str->Nat
 |a::s,b::t=>if a=b then shared s t+1 else 0
 |_,_=>0
def IL (p q:Str):Int:=
 if p.length<4\/q.length<4\/shared p.reverse q.reverse<4 then 0
 else if shared p.reverse q.reverse=p.length/\shared p.reverse q.reverse=q.length then 1000
 else if shared p.reverse q.reverse>=7\/shared p.reverse q.reverse=p.length\/shared p.reverse q.reverse=q.length then 800 else 400
def rQ (x y:Str):Int:=IL (digits x) (digits y)
variable {i:Nat}
def abS {s:Str}(h:i<s.length:=by omega):s[s.length-1-i]?=some (chr s.reverse i):=by
 have h1:=zQ (s:=s.reverse) (i:=i) (by simpa using h);rw[←h1,List.getElem?_reverse h]
variable {p q:Str}
def Z0 (hp:i<p.length)(hq:i<q.length):shared (p.drop i) (q.drop i)=if chr p i=chr q i then shared (p.drop (i+1)) (q.drop (i+1))+1 else 0:=by
 rw[bN hp,bN hq,shared];have h1:=zQ hp;have h2:=zQ hq;rw[aB hp]at h1;rw[aB hq]at h2;rw[k_Option_some_inj h1,k_Option_some_inj h2]
def LK (h:p.length<=i\/q.length<=i):shared (p.drop i) (q.drop i)=0:=by
 rcases h with h|h
 ·rw[bW h];unfold shared;rfl
 ·rw[bW h];cases p.drop i<;>rfl
end Go.Pl
end
section
namespace Go.Pl
open Go.Dv
def fld (r:Rec)(i:Nat):Str:=r.fields.getD i []
def tL (x y:Str):Int:=if 0<iW x/\0<iW y then mP (iW x) (iW y) 10 else 0
def DC (a b:Rec):L1:=[pI (fld a 0) (fld b 0),tJ (tokens (fld a 0)) (tokens (fld b 0)),tJ (lY (fld a 0)) (lY (fld b 0)),pI (fld a 1) (fld b 1),tL (fld a 2) (fld b 2),rQ (fld a 3) (fld b 3)]
def recAt (l:List Rec)(i:Nat):Rec:=l.getD i default
def QC {l:List Rec}{i:Nat}(h:i<l.length:=by omega):l[i]?=some (recAt l i):=by simp[recAt,aC,h]
def lN (l:List Rec)(rs:List (List Tst))(s:Sco)(i k:Nat):Int:=if i=k then 0 else iT rs s (DC (recAt l (min i k)) (recAt l (max i k)))
def xC (l:List Rec)(rs:List (List Tst))(s:Sco)(i:Nat):L1:=(List.range l.length).map (lN l rs s i)
def weights (l:List Rec)(rs:List (List Tst))(s:Sco):L2:=(List.range l.length).map (xC l rs s)
variable {α:Type}
def YV (f:Nat->α)(k:Nat):(List.range (k+1)).map f=(List.range k).map f++[f k]:=by simp[gD]
def gZ {r:Rec}(h:bQ r=true):r.fields.length=4/\∀i,i<4->r.fields[i]?=some (fld r i)/\(fld r i).length<=40:=by
 simp only[bQ,k_Bool_and_eq_true,decide_eq_true_eq,aI]at h;refine⟨h.2,fun i hi=> ?_⟩;have h1:r.fields[i]?=some (fld r i):=by simp[fld,aC,h.2,hi]
 refine⟨h1,?_⟩;have h2:=h.1.1.1.1 _ (aA h1);simp only[lC,isText,k_Bool_and_eq_true,decide_eq_true_eq]at h2;exact h2.2.2
def backs (p:α->Bool)(l:List α):Nat:=(l.reverse.takeWhile p).length
def jW (p:α->Bool)(l:List α)(v:α):List α:=l.take (l.length-backs p l)++[v]++l.drop (l.length-backs p l)
def ajS (p:α->Bool)(l:List α):backs p l<=l.length:=by
 have:=(nT (p:=p) (l:=l.reverse)).length_le;simpa[backs]using this
def OP (p:α->Bool)(l:List α)(v:α):(jW p l v).length=l.length+1:=by
 have:=ajS p l;simp[jW];omega
variable {p:α->Bool}{l:List α}{k:Nat}
def M8 (hk:k<=l.length)(h1:∀j,k<=j->(h:j<l.length)->p l[j]=true)(h2:k=0\/∃c,l[k-1]?=some c/\p c=false):l.length-backs p l=k:=by
 have h3:l=l.take k++l.drop k:=(cZ k l).symm;have h4:l.reverse=(l.drop k).reverse++(l.take k).reverse:=by rw[←List.reverse_append,←h3]
 have h5:∀x∈(l.drop k).reverse,p x=true:=by
  intro x hx;rw[List.mem_reverse]at hx;obtain⟨j,hj⟩:=dE hx;rw[dR]at hj;have hlt:=(aD.1 hj).1;have:=h1 (k+j) (by omega) hlt;rw[aB hlt]at hj
  rwa [k_Option_some_inj hj]at this
 have h6:((l.take k).reverse).takeWhile p=[]:=by
  rcases h2 with rfl|⟨c,hc,hp⟩
  ·simp
  ·by_cases hk0:k=0
   ·subst hk0;simp
   ·have h7:l.take k=l.take (k-1)++[c]:=by
     have:=dX hc
     rwa [show k-1+1=k by omega]at this
    rw[h7];simp[hp]
 have h8:backs p l=(l.drop k).length:=by
  unfold backs;rw[h4,List.takeWhile_append_of_pos h5,h6];simp
 rw[h8];simp;omega
def sW (v u:Ver):Bool:=decide (0<gF u v)
def iC (l:List Ver):List Ver:=l.foldl (fun out v=>jW (sW v) out v) []
def CK (v u:Ver):Bool:=decide (u.time<v.time)
def tQ (l:List Ver):List Ver:=l.foldl (fun out v=>jW (CK v) out v) []
def CX (p:α->α->Bool):∀(l t:List α),(l.foldl (fun out v=>jW (p v) out v) t).length=t.length+l.length
 |[],t=>by simp
 |x::l,t=>by rw[k_List_foldl_cons,CX p l,OP];simp;omega
def ab0 (l:List Ver)(v:Ver):Nat:=(l.takeWhile fun u=>decide (gF u v<0)).length
def FD (l:List Ver)(v:Ver):Bool:=kT l&&fI v&& !(l.any fun y=>decide (y=v))&&decide (l.length≠8)
def yS (l:List Ver)(v:Ver):List Ver:=if FD l v=true then l.take (ab0 l v)++[v]++l.drop (ab0 l v)else l
def avF (l:List Ver)(v:Ver):ab0 l v<=l.length:=(nT _).length_le
def ajE (hk:k<=l.length)(h1:(l.take k).all p=true)(h2:k=l.length\/∃c,l[k]?=some c/\p c=false):(l.takeWhile p).length=k:=by
 have h3:l=l.take k++l.drop k:=(cZ k l).symm;have h5:∀x∈l.take k,p x=true:=aI.1 h1
 have h6:(l.drop k).takeWhile p=[]:=by
  rcases h2 with rfl|⟨c,hc,hp⟩
  ·simp
  ·have hlt:=(aD.1 hc).1;rw[bN hlt];rw[aB hlt]at hc;rw[k_Option_some_inj hc];simp[hp]
 rw[h3,List.takeWhile_append_of_pos h5,h6];simp;omega
def uO (cannot:List Ver)(st:L2×List Ver×List Ver)(v:Ver):L2×List Ver×List Ver:=
 if cannot.all (BH (oP st.1 v.a v.b))=true then(oP st.1 v.a v.b,yS (iC st.2.1) v,st.2.2)else(st.1,st.2.1,st.2.2++[v])
def IQ (l:List Ver):L2×List Ver×List Ver:=(tQ (uN (gM l))).foldl (uO (apart (gM l))) ([],apart (gM l),[])
def nK (l:List Ver):List Ver:=iC (IQ l).2.1
def jO (l:List Ver):List Ver:=iC (IQ l).2.2
def OZ (g:L2)(items:L1)(i:Nat):Option Nat:=(List.range items.length).find? fun k=>decide (i<k)&&decide (eQ g (at1 items k)=eQ g (at1 items i))
def rY (g:L2)(items:L1)(i:Nat):List Con:=if 0<=eQ g (at1 items i)then(match OZ g items i with|some k=>[⟨i,k,true⟩]|none=>[])else[]
def KD (g:L2)(items:L1):List Con:=(List.range items.length).flatMap (rY g items)
def nU (kept:List Ver)(items:L1):List Con:=KD (joined kept) items++E9 (apart kept) items
def ZY (g:L2)(items:L1)(i:Nat):(rY g items i).length<=1:=by
 unfold rY;split
 ·split<;>simp
 ·simp
end Go.Pl
end
section
namespace Go
def wB:= @Int.lt_or_le
def gJ:= @Int.lt_trichotomy
end Go
end
section
namespace Go.Pl
open Go.Dv
def RG (l:L1):Prop:=∀k<l.length,0<=at1 l k/\∀v,0<=v->v<at1 l k->∃j<k,at1 l j=v
variable {b:L1}
def ahS {a:L1}(hl:a.length=b.length)(h:∀k<a.length,at1 a k=at1 b k):a=b:=by
 refine jS fun k=> ?_;by_cases hk:k<a.length
 ·rw[aV hk,aV,h k hk]
 ·rw[k_List_getElem__eq_none (by omega),k_List_getElem__eq_none (by omega)]
def RG.unique {a:L1}(hl:a.length=b.length)(ha:RG a)(hb:RG b)(h:∀i k,i<a.length->k<a.length->(at1 a i=at1 a k↔at1 b i=at1 b k)):a=b:=by
 refine ahS hl fun k hk=> ?_
 induction k using Nat.strongRecOn with
 |_ k ih=>
  rcases gJ (at1 a k) (at1 b k)with hlt|he|hlt
  ·obtain⟨j,hj,e⟩:=(hb k (by omega)).2 (at1 a k) (ha k hk).1 hlt;have h1:=ih j hj (by omega);have h2:=(h j k (by omega) hk).1 (by omega);omega
  ·exact he
  ·obtain⟨j,hj,e⟩:=(ha k hk).2 (at1 b k) (hb k (by omega)).1 hlt;have h1:=ih j hj (by omega);have h2:=(h j k (by omega) hk).2 (by omega);omega
def ag2:∀(l:L1) (top:Int) (pre:L1), -1<=top->(∀v,0<=v->v<=top->∃j<pre.length,at1 pre j=v)->(∀j<pre.length,at1 pre j<=top)->RG (pre++l)->AL top l=true
 |[],_,_,_,_,_,_=>rfl
 |x::l,top,pre,ht,h1,h2,h=>by
  have hx:=h pre.length (by simp);have hat:at1 (pre++x::l) pre.length=x:=by simp[at1,aC]
  have hpre:∀j<pre.length,at1 (pre++x::l) j=at1 pre j:=fun j hj=>by simp[at1,aC,aW hj]
  rw[hat]at hx
  have hle:x<=top+1:=by
   rcases wB (top+1) x with hlt|hle
   ·by_cases h0:0<=top+1
    ·obtain⟨j,hj,e⟩:=hx.2 (top+1) h0 hlt;rw[hpre j hj]at e;have:=h2 j hj;omega
    ·by_cases hx0:x=0
     ·omega
     ·obtain⟨j,hj,e⟩:=hx.2 0 (by omega) (by omega);rw[hpre j hj]at e;have:=h2 j hj;omega
   ·exact hle
  simp only[AL,k_Bool_and_eq_true,decide_eq_true_eq];refine⟨⟨hx.1,hle⟩,ag2 l (max top x) (pre++[x]) (by omega) (fun v hv hvt=> ?_) (fun j hj=> ?_) (by simpa using h)⟩
  ·by_cases hvt2:v<=top
   ·obtain⟨j,hj,e⟩:=h1 v hv hvt2;exact⟨j,by simp;omega,by rw[←e];simp[at1,aC,aW hj]⟩
   ·exact⟨pre.length,by simp,by simp[at1,aC];omega⟩
  ·by_cases hj2:j<pre.length
   ·have:=h2 j hj2;have e:at1 (pre++[x]) j=at1 pre j:=by simp[at1,aC,aW hj2]
    omega
   ·obtain rfl:j=pre.length:=by simp at hj;omega
    simp[at1,aC];omega
def ag1:∀(l:L1) (top:Int) (pre:L1), -1<=top->(∀v,0<=v->v<=top->∃j<pre.length,at1 pre j=v)->RG pre->AL top l=true->RG (pre++l)
 |[],_,pre,_,_,h,_=>by simpa using h
 |x::l,top,pre,ht,h1,h,hp=>by
  simp only[AL,k_Bool_and_eq_true,decide_eq_true_eq]at hp;have:=ag1 l (max top x) (pre++[x]) (by omega) (fun v hv hvt=> ?_) (fun k hk=> ?_) hp.2
  ·simpa using this
  ·by_cases hvt2:v<=top
   ·obtain⟨j,hj,e⟩:=h1 v hv hvt2;exact⟨j,by simp;omega,by rw[←e];simp[at1,aC,aW hj]⟩
   ·exact⟨pre.length,by simp,by simp[at1,aC];omega⟩
  ·by_cases hk2:k<pre.length
   ·have e:∀j<pre.length,at1 (pre++[x]) j=at1 pre j:=fun j hj=>by simp[at1,aC,aW hj]
    rw[e k hk2];refine⟨(h k hk2).1,fun v hv hvl=> ?_⟩;obtain⟨j,hj,e2⟩:=(h k hk2).2 v hv hvl;exact⟨j,hj,by rw[e j (by omega),e2]⟩
   ·obtain rfl:k=pre.length:=by simp at hk;omega
    have e:at1 (pre++[x]) pre.length=x:=by simp[at1,aC]
    rw[e];refine⟨hp.1.1,fun v hv hvl=> ?_⟩;obtain⟨j,hj,e2⟩:=h1 v hv (by omega);exact⟨j,hj,by rw[←e2];simp[at1,aC,aW hj]⟩
def isPart_iff {l:L1}:fQ l=true↔RG l/\1<=l.length/\l.length<=8:=by
 simp only[fQ,k_Bool_and_eq_true,decide_eq_true_eq];constructor
 ·rintro⟨h1,h2⟩;have:=ag1 l (-1) [] (by omega) (fun v h1 h2=>by omega) (fun k hk=>by simp at hk) h1;exact⟨by simpa using this,by omega⟩
 ·rintro⟨h1,h2⟩;exact⟨ag2 l (-1) [] (by omega) (fun v h1 h2=>by omega) (fun j hj=>by simp at hj) (by simpa using h1),by omega⟩
inductive Reach (n:Nat) (M:List (List Bool)):Nat->Nat->Prop
 |refl (i:Nat):Reach n M i i
 |step {i a b:Nat}:Reach n M i a->a<n->b<n->atB M a b=true->Reach n M i b
variable {n:Nat}{M:List (List Bool)}{i a:Nat}
def Reach.trans {b:Nat}(h:Reach n M i a)(h2:Reach n M a b):Reach n M i b:=by
 induction h2 with
 |refl=>exact h
 |step _ ha hb hm ih=>exact .step ih ha hb hm
def ajK (n:Nat)(M:List (List Bool)):Prop:=∀a b,a<n->b<n->atB M a b=true->atB M b a=true
def Reach.symm {n:Nat}{M:List (List Bool)}(hs:ajK n M){i a:Nat}(h:Reach n M i a):Reach n M a i:=by
 induction h with
 |refl=>exact .refl _
 |step _ ha hb hm ih=>exact(Reach.step (.refl _) hb ha (hs _ _ ha hb hm)).trans ih
def Reach.lt (h:Reach n M i a)(hi:i<n):a<n:=by
 induction h with
 |refl=>exact hi
 |step _ _ hb _ _=>exact hb
def Reach.mono {M':List (List Bool)}(hm:∀a b,a<n->b<n->atB M a b=true->atB M' a b=true)(h:Reach n M i a):Reach n M' i a:=by
 induction h with
 |refl=>exact .refl _
 |step _ ha hb h ih=>exact .step ih ha hb (hm _ _ ha hb h)
def D8 (n:Nat)(M:List (List Bool))(l:L1):Prop:=l.length=n/\RG l/\∀i k,i<n->k<n->(at1 l i=at1 l k↔Reach n M i k)
def D8.unique {a:L1}(ha:D8 n M a)(hb:D8 n M b):a=b:=
 RG.unique (by rw[ha.1,hb.1]) ha.2.1 hb.2.1 fun i k hi hk=>by
  rw[ha.1]at hi hk;rw[ha.2.2 i k hi hk,hb.2.2 i k hi hk]
structure Spr (n:Nat) (M:List (List Bool)) (x:Int) (o o':L1):Prop where
 len:o'.length=o.length
 old:∀k<n,at1 o k=x->at1 o' k=x
 new:∀k<n,at1 o' k=at1 o k\/(at1 o' k=x/\∃s<n,at1 o s=x/\Reach n M s k)
variable {x:Int}
def Spr.refl (o:L1):Spr n M x o o:=⟨rfl,fun _ _ h=>h,fun _ _=> .inl rfl⟩
def Spr.trans {a c:L1}(h:Spr n M x a b)(h':Spr n M x b c):Spr n M x a c:=by
 refine⟨h'.len.trans h.len,fun k hk e=>h'.old k hk (h.old k hk e),fun k hk=> ?_⟩;rcases h'.new k hk with e|⟨e,s,hs,e2,hr⟩
 ·rw[e];exact h.new k hk
 ·refine .inr ⟨e,?_⟩;rcases h.new s hs with e3|⟨_,t,ht,e4,hr2⟩
  ·exact⟨s,hs,by omega,hr⟩
  ·exact⟨t,ht,e4,hr2.trans hr⟩
variable {o:L1}
def abU {b:Nat}(hl:o.length=n)(ha:a<n)(hb:b<n):Spr n M x o (spB M x a b o)/\(at1 o a=x->atB M a b=true->at1 (spB M x a b o) b=x):=by
 unfold spB;split
 ·rename_i h;have hs:=fun k=>yI (r:=o) (j:=b) (v:=x) k (by omega);refine⟨⟨by simp,fun k hk e=>by rw[hs];split<;>simp_all,fun k hk=> ?_⟩,fun _ _=>by rw[hs,if_pos rfl]⟩;rw[hs];split
  ·subst_vars;exact .inr ⟨rfl,a,ha,h.1,.step (.refl _) ha hb h.2⟩
  ·exact .inl rfl
 ·rename_i h;exact⟨.refl o,fun h1 h2=>absurd ⟨h1,h2⟩ h⟩
variable {f:Nat->L1->L1}
def P5 {m:Nat}(hf:∀i o,i<m->o.length=n->Spr n M x o (f i o))(hl:o.length=n):Spr n M x o (loopN m o f):=by
 refine loopN_inv (fun _ o'=>Spr n M x o o') (.refl o) fun i o' hi h=>h.trans (hf i o' hi (h.len.trans hl))
def ai7 (ha:a<n)(hl:o.length=n):Spr n M x o (spA n M x a o):=P5 (fun i o hi hl=>(abU hl ha hi).1) hl
variable {t:Nat}
def QE (hl:o.length=n):Spr n M x o (spS n M x t o):=P5 (fun i o hi hl=>ai7 hi hl) hl
def agR {m:Nat}(hi:i<m)(R:L1->L1->Prop)(hr:∀o,R o o)(ht:∀a b c,R a b->R b c->R a c)(n:Nat)(hl:o.length=n)(hlen:∀i o,i<m->o.length=n->(f i o).length=n/\R o (f i o)):∃p,R o p/\p.length=n/\R (f i p) (loopN m o f):=by
 induction m with
 |zero=>omega
 |succ m ih=>
  have hall:∀k≤m,(loopN k o f).length=n/\R o (loopN k o f):=by
   intro k hk
   induction k with
   |zero=>exact⟨hl,hr o⟩
   |succ k ihk=>
    rw[aL];have h1:=ihk (by omega);have h2:=hlen k _ (by omega) h1.1;exact⟨h2.1,ht _ _ _ h1.2 h2.2⟩
  rw[aL];by_cases him:i=m
  ·subst him;exact⟨_,(hall i (by omega)).2,(hall i (by omega)).1,hr _⟩
  ·obtain⟨p,h1,h2,h3⟩:=ih (by omega) fun i o hi hl=>hlen i o (by omega) hl;exact⟨p,h1,h2,ht _ _ _ h3 (hlen m _ (by omega) (hall m (by omega)).1).2⟩
def aeR (hl:o.length=n)(hsame:∀k<n,at1 (spS n M x t o) k=x->at1 o k=x){b:Nat}(ha:a<n)(hb:b<n)(h1:at1 o a=x)(h2:atB M a b=true):at1 o b=x:=by
 refine hsame b hb ?_;unfold spS;obtain⟨p,hp1,hp2,hp3⟩:=agR (f:=spA n M x) (o:=o) ha (Spr n M x) (fun o=> .refl o) (fun _ _ _=> .trans) n hl (fun i o hi hl=>⟨(ai7 hi hl).len.trans hl,ai7 hi hl⟩);refine hp3.old b hb ?_;unfold spA;obtain⟨q,hq1,hq2,hq3⟩:=agR (f:=spB M x a) (o:=p) hb (Spr n M x) (fun o=> .refl o) (fun _ _ _=> .trans) n hp2 (fun i o hi hl=>⟨(abU hl ha hi).1.len.trans hl,(abU hl ha hi).1⟩);exact hq3.old b hb ((abU hq2 ha hb).2 (hq1.old a ha (hp1.old a ha h1)) h2)
def cnt (x:Int)(o:L1):Nat:=(List.range o.length).countP fun k=>decide (at1 o k=x)
def aDR (x:Int)(o:L1):cnt x o<=o.length:=by
 have:=List.countP_le_length (p:=fun k=>decide (at1 o k=x)) (l:=List.range o.length);simpa[cnt]using this
def XZ {α:Type}{p q:α->Bool}:∀{l:List α},(∀x∈l,p x=true->q x=true)->(∃x∈l,q x=true/\p x=false)->l.countP p<l.countP q
 |[],_,h=>by obtain⟨_,h,_⟩:=h;cases h
 |y::l,hm,h=>by
  have hle:l.countP p<=l.countP q:=List.countP_mono_left fun x hx=>hm x (bG _ hx);obtain⟨x,hx,h1,h2⟩:=h;rw[List.countP_cons,List.countP_cons];rcases aS.1 hx with rfl|hx
  ·simp[h1,h2];omega
  ·have:=XZ (fun x hx=>hm x (bG _ hx)) ⟨x,hx,h1,h2⟩;have:=hm y (by simp);by_cases hp:p y=true
   ·simp[hp,this hp];omega
   ·simp[hp];omega
variable {o':L1}
def cnt_lt (hl:o.length=n)(h:Spr n M x o o')(hne:¬∀k<n,at1 o' k=x->at1 o k=x):cnt x o<cnt x o':=by
 unfold cnt;rw[h.len];refine XZ (fun k hk hp=> ?_) ?_
 ·have:=h.old k (by rw[←hl];exact aZ.1 hk) (by simpa using hp);simpa using this
 ·rw[Classical.not_forall]at hne;obtain⟨k,hk⟩:=hne;rw[Classical.not_forall]at hk;obtain⟨hkn,hk⟩:=hk;rw[Classical.not_imp]at hk;exact⟨k,aZ.2 (by omega),by simpa using hk.1,by simpa using hk.2⟩
def afJ (hl:o.length=n)(hx:∃s<n,at1 o s=x){b:Nat}(ha:a<n)(hb:b<n)(h1:at1 (spread n M x o) a=x)(h2:atB M a b=true):at1 (spread n M x o) b=x:=by
 have hr:∀i,Spr n M x o (loopN i o (spS n M x)):=fun i=>P5 (fun _ _ _ hl=>QE hl) hl
 have key:∀i,(∃j<i,∀k<n,at1 (loopN (j+1) o (spS n M x)) k=x->at1 (loopN j o (spS n M x)) k=x)\/i+1<=cnt x (loopN i o (spS n M x)):=by
  intro i
  induction i with
  |zero=>
   refine .inr ?_;obtain⟨s,hs,e⟩:=hx;show 1<=cnt x o;unfold cnt;exact List.one_le_countP_iff.2 ⟨s,aZ.2 (by omega),by simpa using e⟩
  |succ i ih=>
   rcases ih with⟨j,hj,h⟩|ih
   ·exact .inl ⟨j,by omega,h⟩
   ·by_cases hne:∀k<n,at1 (loopN (i+1) o (spS n M x)) k=x->at1 (loopN i o (spS n M x)) k=x
    ·exact .inl ⟨i,by omega,hne⟩
    ·refine .inr ?_;have hli:=(hr i).len.trans hl;have:=cnt_lt hli (by rw[aL];exact QE (t:=i) hli) hne;omega
 rcases key n with⟨j,hj,h⟩|h
 ·-- from there on the label is closed
  have hclo:∀i,j<=i->i<=n->∀k<n,at1 (loopN i o (spS n M x)) k=x->at1 (loopN j o (spS n M x)) k=x:=by
   intro i hji hin
   induction i with
   |zero=>obtain rfl:j=0:=by omega
          exact fun k _ e=>e
   |succ i ih=>
    by_cases hji2:j=i+1
    ·subst hji2;exact fun k _ e=>e
    ·intro k hk e;have hli:=(hr i).len.trans hl;have hlj:=(hr j).len.trans hl;refine ih (by omega) (by omega) k hk ?_;rw[aL]at e;rcases(QE (M:=M) (x:=x) (t:=i) hli).new k hk with e2|⟨e6,s,hs,e3,hre⟩
     ·rw[←e2];exact e
     ·have e4:=ih (by omega) (by omega) s hs e3;have hjc:∀a b,a<n->b<n->at1 (loopN j o (spS n M x)) a=x->atB M a b=true->at1 (loopN j o (spS n M x)) b=x:=fun a b ha hb h1 h2=>aeR (t:=j) hlj (by rw[aL]at h;exact h) ha hb h1 h2
      have e5:at1 (loopN j o (spS n M x)) k=x:=by
       clear hk e e6
       induction hre with
       |refl=>exact e4
       |step _ ha hb hm ih=>exact hjc _ _ ha hb ih hm
      have hji3:Spr n M x (loopN j o (spS n M x)) (loopN i o (spS n M x)):=by
       obtain⟨d,rfl⟩:∃d,i=j+d:=⟨i-j,by omega⟩;clear ih e e6 e3 e4 e5 hjc hre hli hin hji hji2
       induction d with
       |zero=>exact .refl _
       |succ d ih=>exact ih.trans (by rw[show j+(d+1)=(j+d)+1 by omega,aL];exact QE ((hr _).len.trans hl))
      exact hji3.old k hk e5
  have hlj:=(hr j).len.trans hl;have e1:=hclo n (by omega) (by omega) a ha h1;have e2:=aeR (t:=j) hlj (by rw[aL]at h;exact h) ha hb e1 h2
  have hjn:Spr n M x (loopN j o (spS n M x)) (loopN n o (spS n M x)):=by
   obtain⟨d,hd⟩:∃d,n=j+d:=⟨n-j,by omega⟩
   have:∀d,Spr n M x (loopN j o (spS n M x)) (loopN (j+d) o (spS n M x)):=by
    intro d
    induction d with
    |zero=>exact .refl _
    |succ d ih=>exact ih.trans (by rw[show j+(d+1)=(j+d)+1 by omega,aL];exact QE ((hr _).len.trans hl))
   have:=this d
   rwa [←hd]at this
  exact hjn.old b hb e2
 ·have:=aDR x (loopN n o (spS n M x));rw[(hr n).len,hl]at this;omega
def ap4 (hl:o.length=n):Spr n M x o (spread n M x o):=P5 (fun _ _ _ hl=>QE hl) hl
structure yR (n:Nat) (M:List (List Bool)) (i:Nat) (s:L1×Int):Prop where
 len:s.1.length=n
 nx:0<=s.2
 lt:∀k<n, -1<=at1 s.1 k/\at1 s.1 k<s.2
 done:∀k<i,0<=at1 s.1 k
 seed:∀v,0<=v->v<s.2->∃j<i,at1 s.1 j=v
 rg:∀k<n,∀v,0<=v->v<at1 s.1 k->∃j<k,at1 s.1 j=v
 clo:∀a b,a<n->b<n->0<=at1 s.1 a->(at1 s.1 b=at1 s.1 a↔Reach n M a b)
def yR.step {n i:Nat}{M:List (List Bool)}(hs:ajK n M)(hi:i<n){s:L1×Int}(h:yR n M i s){o:L1}(hl:o.length=n)(hx:∀k<n,(at1 o k=s.2↔Reach n M i k))(hold:∀k<n,¬Reach n M i k->at1 o k=at1 s.1 k)(h0:at1 s.1 i<0):yR n M (i+1) (o,s.2+1):=by
 have hnone:∀k<n,Reach n M i k->at1 s.1 k= -1:=fun k hk hr=>by
  have h1:=h.lt k hk;by_cases h2:0<=at1 s.1 k
  ·have:=(h.clo k i hk hi h2).2 (hr.symm hs);omega
  ·omega
 have hge:∀k<n,Reach n M i k->i<=k:=fun k hk hr=>by
  by_cases hik:i<=k
  ·exact hik
  ·have:=h.done k (by omega);have:=hnone k hk hr;omega
 have hkeep:∀j<i,at1 o j=at1 s.1 j:=fun j hj=>hold j (by omega) fun hr=>by have:=hge j (by omega) hr;omega
 refine⟨hl,by simp only;have:=h.nx;omega,fun k hk=> ?_,fun k hk=> ?_,fun v h1 h2=> ?_,fun k hk v h1 h2=> ?_,fun a b ha hb h1=> ?_⟩
 ·simp only;by_cases hr:Reach n M i k
  ·rw[(hx k hk).2 hr];have:=h.nx;omega
  ·rw[hold k hk hr];have:=h.lt k hk;omega
 ·simp only;by_cases hr:Reach n M i k
  ·rw[(hx k (by omega)).2 hr];exact h.nx
  ·rw[hold k (by omega) hr];have:k≠i:=fun e=>hr (e▸ .refl _);exact h.done k (by omega)
 ·simp only at h2|-
  by_cases hv:v=s.2
  ·exact⟨i,by omega,by rw[hv];exact(hx i hi).2 (.refl _)⟩
  ·obtain⟨j,hj,e⟩:=h.seed v h1 (by omega);exact⟨j,by omega,by rw[hkeep j hj,e]⟩
 ·simp only at h2|-
  by_cases hr:Reach n M i k
  ·rw[(hx k hk).2 hr]at h2;obtain⟨j,hj,e⟩:=h.seed v h1 h2;have:=hge k hk hr;exact⟨j,by omega,by rw[hkeep j hj,e]⟩
  ·rw[hold k hk hr]at h2;obtain⟨j,hj,e⟩:=h.rg k hk v h1 h2;refine⟨j,hj,?_⟩;rw[hold j (by omega),e];intro hrj;have:=hnone j (by omega) hrj;omega
 ·simp only at h1|-
  by_cases hra:Reach n M i a
  ·rw[(hx a ha).2 hra];rw[hx b hb];exact⟨fun h=>(hra.symm hs).trans h,fun h=>hra.trans h⟩
  ·rw[hold a ha hra]at h1|-
   by_cases hrb:Reach n M i b
   ·rw[(hx b hb).2 hrb];have:=h.lt a ha;constructor
    ·intro e;omega
    ·intro e;exact absurd (hrb.trans (e.symm hs)) hra
   ·rw[hold b hb hrb];exact h.clo a b ha hb h1
variable {s:L1×Int}
def alM (hs:ajK n M)(hi:i<n)(h:yR n M i s):yR n M (i+1) (IG n M i s):=by
 unfold IG;split
 ·rename_i h0;exact⟨h.len,h.nx,h.lt,fun k hk=>by by_cases e:k=i;(subst e;exact h0);exact h.done k (by omega),fun v h1 h2=>by obtain⟨j,hj,e⟩:=h.seed v h1 h2;exact⟨j,by omega,e⟩,h.rg,h.clo⟩
 ·rename_i h0;have hil:i<s.1.length:=by rw[h.len];exact hi
  have hset:=fun k=>yI (r:=s.1) (j:=i) (v:=s.2) k hil;have hl0:(s.1.set i s.2).length=n:=by simp[h.len]
  have hsp:=ap4 (M:=M) (x:=s.2) hl0;have hcl:=fun a b ha hb=>afJ (M:=M) (x:=s.2) hl0 ⟨i,hi,by rw[hset,if_pos rfl]⟩ (a:=a) (b:=b) ha hb
  have hseed:∀k<n,(at1 (s.1.set i s.2) k=s.2↔k=i):=fun k hk=>by
   rw[hset];split
   ·simp_all
   ·rename_i hne;have:=h.lt k hk;constructor
    ·intro e;omega
    ·intro e;exact absurd e.symm hne
  have hx:∀k<n,(at1 (spread n M s.2 (s.1.set i s.2)) k=s.2↔Reach n M i k):=fun k hk=>by
   constructor
   ·intro e;rcases hsp.new k hk with e2|⟨_,t,ht,e3,hr⟩
    ·obtain rfl:=(hseed k hk).1 (by omega);exact .refl _
    ·obtain rfl:=(hseed t ht).1 e3;exact hr
   ·intro hr;clear hk
    induction hr with
    |refl=>exact hsp.old i hi ((hseed i hi).2 rfl)
    |step _ ha hb hm ih=>exact hcl _ _ ha hb ih hm
  have hold:∀k<n,¬Reach n M i k->at1 (spread n M s.2 (s.1.set i s.2)) k=at1 s.1 k:=fun k hk hn=>by
   rcases hsp.new k hk with e2|⟨e,_⟩
   ·rw[e2,hset,if_neg];rintro rfl;exact hn (.refl _)
   ·exact absurd ((hx k hk).1 e) hn
  exact h.step hs hi (by rw[hsp.len,hl0]) hx hold (by omega)
def yR.start :yR n M 0 (List.replicate n (-1),0):=by
 have hrep:∀k<n,at1 (List.replicate n (-1)) k= -1:=fun k hk=>by simp[at1,aC,hk]
 exact⟨by simp,by simp,fun k hk=>by simp only;rw[hrep k hk];omega,fun k hk=>by omega,fun v h1 h2=>by simp only at h2;omega,fun k hk v h1 h2=>by simp only at h2;rw[hrep k hk]at h2;omega,fun a b ha hb h1=>by simp only at h1;rw[hrep a ha]at h1;omega⟩
def yR.is (h:yR n M n s):D8 n M s.1:=by
 refine⟨h.len,fun k hk=>⟨h.done k (by rw[h.len]at hk;exact hk),h.rg k (by rw[h.len]at hk;exact hk)⟩,fun i k hi hk=> ?_⟩;rw[eq_comm];exact h.clo i k hi hk (h.done i hi)
def abM (hs:ajK n M):D8 n M (alN n M).1:=
 yR.is (s:=alN n M) (loopN_inv (yR n M) .start fun i s hi h=>alM hs hi h)
def dfs (n:Nat)(m:L2)(c:Int):Nat->Nat->L1->L1
 |0,_,o=>o
 |f+1,i,o=>loopN n (o.set i c) fun k o=>if 0<at2 m i k/\at1 o k<0 then dfs n m c f k o else o
def KR (n:Nat)(m:L2)(i:Nat)(s:L1×Int):L1×Int:=if at1 s.1 i<0 then(dfs n m s.2 n i s.1,s.2+1)else s
def abG (n:Nat)(m:L2):L1×Int:=loopN n (List.replicate n (-1),0) (KR n m)
def negs (n:Nat)(o:L1):Nat:=(List.range n).countP fun k=>decide (at1 o k<0)
def agV (h:∀k<n,0<=at1 o k->0<=at1 o' k):negs n o'<=negs n o:=
 List.countP_mono_left fun k hk hp=>by
  have:=h k (aZ.1 hk);simp only[decide_eq_true_eq]at hp|-
  omega
variable {c:Int}
def WP (hl:o.length=n)(hi:i<n)(h:at1 o i<0)(hc:0<=c):negs n (o.set i c)<negs n o:=by
 have hs:=fun k=>yI (r:=o) (j:=i) (v:=c) k (by omega);refine XZ (fun k hk hp=> ?_) ⟨i,aZ.2 hi,by simpa using h,?_⟩
 ·simp only[decide_eq_true_eq]at hp|-
  rw[hs]at hp;split at hp<;>omega
 ·rw[hs,if_pos rfl];simp;omega
def arB (n:Nat)(o:L1):negs n o<=n:=by
 have:=List.countP_le_length (p:=fun k=>decide (at1 o k<0)) (l:=List.range n);simpa[negs]using this
structure Dfs (n:Nat) (M:List (List Bool)) (c:Int) (i:Nat) (o o':L1):Prop where
 len:o'.length=n
 keep:∀k<n,0<=at1 o k->at1 o' k=at1 o k
 new:∀k<n,at1 o' k=at1 o k\/(at1 o k<0/\at1 o' k=c/\Reach n M i k)
 self:at1 o' i=c
 clo:∀a b,a<n->b<n->at1 o a<0->at1 o' a=c->atB M a b=true->0<=at1 o' b
def aFC (n:Nat)(M:List (List Bool))(c:Int)(i:Nat)(o:L1)(j:Nat)(p:L1):Prop:=
 p.length=n/\(∀k<n,0<=at1 o k->at1 p k=at1 o k)/\(∀k<n,at1 p k=at1 o k\/(at1 o k<0/\at1 p k=c/\Reach n M i k))/\at1 p i=c/\(∀k<n,0<=at1 (o.set i c) k->0<=at1 p k)/\
    (∀a b,a<n->b<n->at1 o a<0->at1 p a=c->atB M a b=true->(a=i->b<j)->0<=at1 p b)
variable {m:L2}
def av8 (hM:∀a b,a<n->b<n->(0<at2 m a b↔atB M a b=true))(hc:0<=c):∀(f i:Nat) (o:L1),o.length=n->i<n->at1 o i<0->negs n o<=f->Dfs n M c i o (dfs n m c f i o)
 |0,i,o,hl,hi,h0,hf=>by
  have:=WP hl hi h0 hc;omega
 |f+1,i,o,hl,hi,h0,hf=>by
  have hs:=fun k=>yI (r:=o) (j:=i) (v:=c) k (by omega);have hng:=WP hl hi h0 hc
  have key:∀j≤n,aFC n M c i o j (loopN j (o.set i c) fun k o=>if 0<at2 m i k/\at1 o k<0 then dfs n m c f k o else o):=by
   intro j hj;refine loopN_inv (n:=j) (f:=fun k o=>if 0<at2 m i k/\at1 o k<0 then dfs n m c f k o else o) (aFC n M c i o) ?_ fun t p ht hp=> ?_
   ·refine⟨by simp[hl],fun k hk h=> ?_,fun k hk=> ?_,by rw[hs,if_pos rfl],fun k hk h=>h,fun a b ha hb h1 h2 h3 h4=> ?_⟩
    ·rw[hs,if_neg];rintro rfl;omega
    ·rw[hs];split
     ·subst_vars;exact .inr ⟨h0,rfl,.refl _⟩
     ·exact .inl rfl
    ·rw[hs]at h2;split at h2
     ·rename_i e;exact absurd (h4 e.symm) (by omega)
     ·omega
   ·obtain⟨p1,p2,p3,p4,p5,p6⟩:=hp;split
    ·rename_i hcd;have hng2:negs n p<=f:=by have:=agV (n:=n) p5;omega
     have hd:=av8 hM hc f t p p1 (by omega) hcd.2 hng2;have hit:Reach n M i t:= .step (.refl _) hi (by omega) ((hM i t hi (by omega)).1 hcd.1);refine⟨hd.len,fun k hk h=> ?_,fun k hk=> ?_,?_,fun k hk h=> ?_,fun a b ha hb h1 h2 h3 h4=> ?_⟩
     ·rw[hd.keep k hk (by rw[p2 k hk h];exact h),p2 k hk h]
     ·rcases hd.new k hk with e|⟨e1,e2,e3⟩
      ·rw[e];exact p3 k hk
      ·refine .inr ⟨?_,e2,hit.trans e3⟩;rcases p3 k hk with e4|⟨e4,_⟩
       ·omega
       ·exact e4
     ·rw[hd.keep i hi (by omega),p4]
     ·rw[hd.keep k hk (p5 k hk h)];exact p5 k hk h
     ·by_cases hpa:at1 p a=c
      ·-- it had its label before
       by_cases hai:a=i
       ·by_cases hbt:b=t
        ·subst hbt;rw[hd.self];exact hc
        ·have hb2:=p6 a b ha hb h1 hpa h3 (fun e=>by have:=h4 e;omega);rw[hd.keep b hb hb2];exact hb2
       ·have hb2:=p6 a b ha hb h1 hpa h3 (fun e=>absurd e hai);rw[hd.keep b hb hb2];exact hb2
      ·have hpa0:at1 p a<0:=by
        rcases p3 a ha with e|⟨_,e,_⟩
        ·omega
        ·exact absurd e hpa
       exact hd.clo a b ha hb hpa0 h2 h3
    ·rename_i hcd;refine⟨p1,p2,p3,p4,p5,fun a b ha hb h1 h2 h3 h4=> ?_⟩;by_cases hai:a=i
     ·by_cases hbt:b=t
      ·subst hbt;by_cases h5:0<=at1 p b
       ·exact h5
       ·exact absurd ⟨(hM i b hi hb).2 (hai▸h3),by omega⟩ hcd
      ·exact p6 a b ha hb h1 h2 h3 (fun e=>by have:=h4 e;omega)
     ·exact p6 a b ha hb h1 h2 h3 (fun e=>absurd e hai)
  obtain⟨p1,p2,p3,p4,p5,p6⟩:=key n (k_Nat_le_refl n);exact⟨p1,p2,p3,p4,fun a b ha hb h1 h2 h3=>p6 a b ha hb h1 h2 h3 fun _=>hb⟩
def akO (hM:∀a b,a<n->b<n->(0<at2 m a b↔atB M a b=true))(hs:ajK n M)(hi:i<n)(h:yR n M i s):yR n M (i+1) (KR n m i s):=by
 unfold KR;split
 ·rename_i h0;have hd:=av8 hM h.nx n i s.1 h.len hi h0 (arB _ _)
  have hx:∀k<n,(at1 (dfs n m s.2 n i s.1) k=s.2↔Reach n M i k):=fun k hk=>by
   constructor
   ·intro e;rcases hd.new k hk with e2|⟨_,_,hr⟩
    ·have:=h.lt k hk;omega
    ·exact hr
   ·intro hr;clear hk
    induction hr with
    |refl=>exact hd.self
    | @step a b _ ha hb hm ih=>
     have hla:=h.lt a ha
     have ha0:at1 s.1 a<0:=by
      rcases hd.new a ha with e2|⟨e,_⟩
      ·omega
      ·exact e
     have hb1:=hd.clo a b ha hb ha0 ih hm;rcases hd.new b hb with e2|⟨_,e,_⟩
     ·exfalso;have:=(h.clo b a hb ha (by omega)).2 (.step (.refl _) hb ha (hs _ _ ha hb hm));omega
     ·exact e
  refine h.step hs hi hd.len hx (fun k hk hr=> ?_) h0;rcases hd.new k hk with e|⟨_,_,e⟩
  ·exact e
  ·exact absurd e hr
 ·rename_i h0;exact⟨h.len,h.nx,h.lt,fun k hk=>by by_cases e:k=i;(subst e;omega);exact h.done k (by omega),fun v h1 h2=>by obtain⟨j,hj,e⟩:=h.seed v h1 h2;exact⟨j,by omega,e⟩,h.rg,h.clo⟩
def aoP (hM:∀a b,a<n->b<n->(0<at2 m a b↔atB M a b=true))(hs:ajK n M):D8 n M (abG n m).1:=
 yR.is (s:=abG n m) (loopN_inv (yR n M) .start fun i s hi h=>akO hM hs hi h)
def av6 (hM:∀a b,a<n->b<n->(0<at2 m a b↔atB M a b=true))(hs:ajK n M):(abG n m).1=(alN n M).1:=(aoP hM hs).unique (abM hs)
end Go.Pl
end
section
namespace Go
def nJ:= @Nat.add_sub_cancel
end Go
end
section
namespace Go.Pl
open Go.Dv
def ed (x y:Str)(tr:Bool):Nat->Nat->Int
 |0,j=>j
 |i+1,0=>(i+1:Nat)
 |i+1,j+1=>
  if vK x y tr (i+1) (j+1)=true then min (if chr x i=chr y j then ed x y tr i j else 1+min (min (ed x y tr i (j+1)) (ed x y tr (i+1) j)) (ed x y tr i j)) (ed x y tr (i-1) (j-1)+1)
  else if chr x i=chr y j then ed x y tr i j else 1+min (min (ed x y tr i (j+1)) (ed x y tr (i+1) j)) (ed x y tr i j)
termination_by i j=>i+j
decreasing_by all_goals omega
variable {i:Nat}
section
variable {x y:Str}{tr:Bool}
def ed_zero (j:Nat):ed x y tr 0 j=j:=by rw[ed]
def ed_zero' (i:Nat):ed x y tr i 0=i:=by cases i<;>simp[ed]
def edV (x y:Str)(tr:Bool)(i j:Nat):Int:=if chr x i=chr y j then ed x y tr i j else 1+min (min (ed x y tr i (j+1)) (ed x y tr (i+1) j)) (ed x y tr i j)
def CV (i j:Nat):ed x y tr (i+1) (j+1)=if vK x y tr (i+1) (j+1)=true then min (edV x y tr i j) (ed x y tr (i-1) (j-1)+1)else edV x y tr i j:=by rw[ed];rfl
def aDV:∀(s i j:Nat),i+j=s->ed x y tr i (j+1)<=ed x y tr i j+1/\ed x y tr i j<=ed x y tr i (j+1)+1/\ed x y tr (i+1) j<=ed x y tr i j+1/\ed x y tr i j<=ed x y tr (i+1) j+1/\ed x y tr (i+1) (j+1)<=ed x y tr i j+1:=by
 intro s
 induction s using Nat.strongRecOn with
 |_ s ih=>
  intro i j hs
  have hsw:∀i j,vK x y tr (i+1) (j+1)=true->∃i' j',i=i'+1/\j=j'+1:=fun i j h=>by
   simp only[vK,k_Bool_and_eq_true,decide_eq_true_eq]at h;exact⟨i-1,j-1,by omega,by omega⟩
  have hE:ed x y tr (i+1) (j+1)<=ed x y tr i j+1:=by
   rw[CV];unfold edV;split<;>split<;>omega
  refine⟨?_,?_,?_,?_,hE⟩
  ·cases i with
   |zero=>rw[ed_zero,ed_zero];omega
   |succ i=>
    have h1:=ih (i+j) (by omega) i j rfl;rw[CV];unfold edV;split<;>split<;>omega
  ·cases i with
   |zero=>rw[ed_zero,ed_zero];omega
   |succ i=>
    have h1:=ih (i+j) (by omega) i j rfl;rw[CV];unfold edV;split
    ·rename_i h;obtain⟨i',j',rfl,rfl⟩:=hsw i j h;have h2:=ih (i'+j') (by omega) i' j' rfl;simp only[nJ];split<;>omega
    ·split<;>omega
  ·cases j with
   |zero=>rw[ed_zero',ed_zero'];omega
   |succ j=>
    have h1:=ih (i+j) (by omega) i j rfl;rw[CV];unfold edV;split<;>split<;>omega
  ·cases j with
   |zero=>rw[ed_zero',ed_zero'];omega
   |succ j=>
    have h1:=ih (i+j) (by omega) i j rfl;rw[CV];unfold edV;split
    ·rename_i h;obtain⟨i',j',rfl,rfl⟩:=hsw i j h;have h2:=ih (i'+j') (by omega) i' j' rfl;simp only[nJ];split<;>omega
    ·split<;>omega
def aDW (i j:Nat):min (min (ed x y tr i (j+1)+1) (ed x y tr (i+1) j+1)) (ed x y tr i j+if chr x i=chr y j then 0 else 1)=edV x y tr i j:=by
 have h:=aDV (x:=x) (y:=y) (tr:=tr) (i+j) i j rfl;unfold edV;split<;>omega
def edR (x y:Str)(tr:Bool)(i k:Nat):L1:=(List.range k).map (ed x y tr i)
def aqJ {k j:Nat}(h:j<k):at1 (edR x y tr i k) j=ed x y tr i j:=by simp[at1,edR,aC,h]
def abE {n k j:Nat}(hi:i<n:=by omega)(h:j<k:=by omega):at2 ((List.range n).map fun i=>edR x y tr i k) i j=ed x y tr i j:=by
 have:=aqJ (x:=x) (y:=y) (tr:=tr) (i:=i) h;simpa[at2,at1,aC,hi]using this
def awG :acX x y tr i ((List.range i).map fun i=>edR x y tr i (y.length+1))=edR x y tr i (y.length+1):=by
 have h:(fun(j:Nat) (r:L1)=>r.length=y.length+1/\∀k<j,at1 r k=ed x y tr i k) (y.length+1) (acX x y tr i ((List.range i).map fun i=>edR x y tr i (y.length+1))):=by
  refine loopN_inv (fun(j:Nat) (r:L1)=>r.length=y.length+1/\∀k<j,at1 r k=ed x y tr i k) ⟨by simp,by omega⟩ fun j r hj ⟨h1,h2⟩=> ?_
  have h3:edOne x y ((List.range i).map fun i=>edR x y tr i (y.length+1)) i r j=(if i=0 then(j:Int)else if j=0 then(i:Int)else edV x y tr (i-1) (j-1)):=by
   unfold edOne;split
   ·rfl
   ·split
    ·rfl
    ·obtain⟨i,rfl⟩:∃k,i=k+1:=⟨i-1,by omega⟩;obtain⟨j,rfl⟩:∃k,j=k+1:=⟨j-1,by omega⟩;simp only[nJ];rw[abE,abE,h2 j (by omega)];rfl
  unfold FL af6;have hset:=yI (r:=r) (j:=j) (v:=edOne x y ((List.range i).map fun i=>edR x y tr i (y.length+1)) i r j);split
  ·rename_i hw;have hw2:=hw;simp only[vK,k_Bool_and_eq_true,decide_eq_true_eq]at hw2;refine⟨by simp[h1],fun k hk=> ?_⟩;rw[yI _ (by simp;omega),hset _ (by omega),hset _ (by omega),if_pos rfl];split
   ·rename_i e;subst e;rw[h3,if_neg (by omega),if_neg (by omega),abE];obtain⟨i,rfl⟩:∃k,i=k+2:=⟨i-2,by omega⟩;obtain⟨j,rfl⟩:∃k,j=k+2:=⟨j-2,by omega⟩;rw[CV,if_pos hw];rfl
   ·exact h2 k (by omega)
  ·rename_i hw;refine⟨by simp[h1],fun k hk=> ?_⟩;rw[hset _ (by omega)];split
   ·rename_i e;subst e;rw[h3];split
    ·rename_i e;rw[e,ed_zero]
    ·split
     ·rename_i e;rw[e,ed_zero']
     ·obtain⟨i,rfl⟩:∃k,i=k+1:=⟨i-1,by omega⟩;obtain⟨j,rfl⟩:∃k,j=k+1:=⟨j-1,by omega⟩;rw[CV,if_neg hw];rfl
   ·exact h2 k (by omega)
 have h1:(acX x y tr i ((List.range i).map fun i=>edR x y tr i (y.length+1))).length=y.length+1:=h.1;refine ahS (by rw[h1];simp[edR]) fun k hk=> ?_;rw[h1]at hk;rw[h.2 k hk,aqJ hk]
def aoQ:PW x y tr=(List.range (x.length+1)).map fun i=>edR x y tr i (y.length+1):=by
 refine loopN_inv (fun i (T:L2)=>T=(List.range i).map fun i=>edR x y tr i (y.length+1)) rfl fun i T _ h=> ?_;rw[h,awG,YV]
def X3:qK x y=if FK x y=true then ed x y false x.length y.length else -1:=by
 unfold qK;rw[aoQ,abE]
def aoR (i j:Nat):0<=ed x y tr i j/\ed x y tr i j<=i+j:=by
 suffices∀s i j,i+j=s->0<=ed x y tr i j/\ed x y tr i j<=i+j from this _ i j rfl
 intro s
 induction s using Nat.strongRecOn with
 |_ s ih=>
  intro i j hs;cases i with
  |zero=>rw[ed_zero];omega
  |succ i=>
   cases j with
   |zero=>rw[ed_zero'];omega
   |succ j=>
    have h1:=ih (i+j) (by omega) i j rfl;have h2:=ih (i+(j+1)) (by omega) i (j+1) rfl;have h3:=ih (i+1+j) (by omega) (i+1) j rfl;have h4:=ih (i-1+(j-1)) (by omega) (i-1) (j-1) rfl;rw[CV];unfold edV;split<;>split<;>omega
end
end Go.Pl
end
section
namespace Go
def oL:= @List.Pairwise.filter
def xQ:= @List.filter_congr
def qM:= @List.filter_cons_of_neg
def mK:= @List.filter_cons_of_pos
def rO:= @List.filter_eq_nil_iff
def qN:= @List.getElem?_cons_succ
def dY:= @List.mem_filter
def dV:= @List.pairwise_cons
def qH:= @List.takeWhile_cons
def oF:= @Nat.lt_trichotomy
end Go
end
section
namespace Go.Pl
open Go.Dv
def jU:∀(a:Str),ltL a a=false
 |[]=>rfl
 |a::x=>by have h:=jU x;unfold ltL at*;rw[Op.bytesLess,h];simp
def zI:∀{a b c:Str},ltL a b=true->ltL b c=true->ltL a c=true
 |_,[],_,h,_=>by unfold ltL at h;rw[Op.bytesLess]at h;cases h
 |_,_::_,[],_,h=>by unfold ltL at h;rw[Op.bytesLess]at h;cases h
 |[],_::_,_::_,_,_=>by unfold ltL;rw[Op.bytesLess]
 |a::x,b::y,c::z,h,h'=>by
  unfold ltL at*
  rw[Op.bytesLess]at*
  simp only[bI,decide_eq_true_eq,k_Bool_and_eq_true,beq_iff_eq]at*
  rcases h with h|⟨rfl,h⟩
  ·rcases h' with h'|⟨rfl,h'⟩
   ·exact .inl (UInt8.lt_trans h h')
   ·exact .inl h
  ·rcases h' with h'|⟨rfl,h'⟩
   ·exact .inl h'
   ·exact .inr ⟨rfl,zI h h'⟩
def EU:∀(a b:Str),ltL a b=true\/a=b\/ltL b a=true
 |[],[]=> .inr (.inl rfl)
 |[],_::_=> .inl (by unfold ltL;rw[Op.bytesLess])
 |_::_,[]=> .inr (.inr (by unfold ltL;rw[Op.bytesLess]))
 |a::x,b::y=>by
  unfold ltL;rw[Op.bytesLess,Op.bytesLess];simp only[bI,decide_eq_true_eq,k_Bool_and_eq_true,beq_iff_eq];rcases oF a.toNat b.toNat with h|h|h
  ·exact .inl (.inl (UInt8.lt_iff_toNat_lt.2 h))
  ·obtain rfl:=k_UInt8_toNat_inj.1 h;rcases EU x y with h|rfl|h
   ·exact .inl (.inr ⟨rfl,h⟩)
   ·exact .inr (.inl rfl)
   ·exact .inr (.inr (.inr ⟨rfl,h⟩))
  ·exact .inr (.inr (.inl (UInt8.lt_iff_toNat_lt.2 h)))
def CF {a b:Str}(h:ltL a b=true):ltL b a=false:=by
 cases h2:ltL b a with
 |false=>rfl
 |true=>have:=zI h h2;rw[jU]at this;cases this
abbrev Asc (l:List Str):Prop:=l.Pairwise fun a b=>ltL a b=true
def UH:∀{l:List Str},adj ltL l=true↔Asc l
 |[]=>by simp
 |[a]=>by simp[adj]
 |a::b::l=>by
  have ih:=UH (l:=b::l);simp only[adj,k_Bool_and_eq_true,ih,dV,aS];constructor
  ·rintro⟨h1,h2,h3⟩;refine⟨fun x hx=> ?_,h2,h3⟩;rcases hx with rfl|hx
   ·exact h1
   ·exact zI h1 (h2 x hx)
  ·rintro⟨h1,h2,h3⟩;exact⟨h1 b (.inl rfl),h2,h3⟩
def Asc.unique:∀{a b:List Str},Asc a->Asc b->(∀x,x∈a↔x∈b)->a=b
 |[],[],_,_,_=>rfl
 |[],y::_,_,_,h=>by have:=(h y).2 (by simp);cases this
 |x::_,[],_,_,h=>by have:=(h x).1 (by simp);cases this
 |x::a,y::b,ha,hb,h=>by
  obtain⟨ha1,ha2⟩:=dV.1 ha;obtain⟨hb1,hb2⟩:=dV.1 hb
  have hxy:x=y:=by
   rcases EU x y with h1|h1|h1
   ·rcases aS.1 ((h x).1 (by simp))with e|e
    ·exact e
    ·have:=CF (hb1 x e);rw[h1]at this;cases this
   ·exact h1
   ·rcases aS.1 ((h y).2 (by simp))with e|e
    ·exact e.symm
    ·have:=CF (ha1 y e);rw[h1]at this;cases this
  subst hxy;congr 1;refine Asc.unique ha2 hb2 fun z=> ?_;have hz:=h z;constructor
  ·intro hm;rcases aS.1 (hz.1 (bG _ hm))with e|e
   ·subst e;have:=ha1 z hm;rw[jU]at this;cases this
   ·exact e
  ·intro hm;rcases aS.1 (hz.2 (bG _ hm))with e|e
   ·subst e;have:=hb1 z hm;rw[jU]at this;cases this
   ·exact e
def PK (y:Str)(l:List Str)(x:Str):jP (y::l) x false=if ltL y x=true then y::jP l x false else if y=x then y::l else x::y::l:=by
 unfold jP BD;by_cases h:ltL y x=true
 ·simp only[qH,h,if_true,aR,qN,kC,List.drop_succ_cons,iA];split<;>simp_all
 ·simp only[qH,h,if_false,dP,jA,List.getElem?_cons_zero,List.take_zero,List.drop_zero,aJ];split
  ·simp_all
  ·simp_all
def AU:∀{l:List Str}{x z:Str},z∈jP l x false↔z∈l\/z=x
 |[],x,z=>by simp[jP,BD]
 |y::l,x,z=>by
  rw[PK];split
  ·rw[aS,AU (l:=l),aS,or_assoc]
  ·split
   ·subst_vars
    constructor
    ·exact .inl
    ·rintro(h|rfl)
     ·exact h
     ·simp
   ·simp only[aS];constructor
    ·rintro(h|h|h)<;>simp[h]
    ·rintro((h|h)|h)<;>simp[h]
def UB:∀{l:List Str}{x:Str},Asc l->Asc (jP l x false)
 |[],x,_=>by simp[jP,BD]
 |y::l,x,h=>by
  obtain⟨h1,h2⟩:=dV.1 h;rw[PK];split
  ·rename_i hlt;refine dV.2 ⟨fun z hz=> ?_,UB h2⟩;rcases AU.1 hz with hz|rfl
   ·exact h1 z hz
   ·exact hlt
  ·split
   ·exact h
   ·rename_i h3 h4
    have hxy:ltL x y=true:=by
     rcases EU x y with e|e|e
     ·exact e
     ·exact absurd e.symm h4
     ·exact absurd e h3
    refine dV.2 ⟨fun z hz=> ?_,h⟩;rcases aS.1 hz with rfl|hz
    ·exact hxy
    ·exact zI hxy (h1 z hz)
def JZ {f:List Str->Str->List Str}{p:Str->Prop}{g:Str->Str}(hp:∀t x,p x->f t x=jP t (g x) false)(hn:∀t x,¬p x->f t x=t):∀(l t:List Str),Asc t->Asc (l.foldl f t)/\∀z,z∈l.foldl f t↔z∈t\/∃x∈l,p x/\z=g x
 |[],t,h=>⟨h,fun z=>by simp⟩
 |y::l,t,h=>by
  by_cases hy:p y
  ·obtain⟨h1,h2⟩:=JZ hp hn l _ (UB (x:=g y) h);simp only[k_List_foldl_cons,hp t y hy];refine⟨h1,fun z=> ?_⟩;rw[h2,AU];simp only[aS,exists_eq_or_imp,hy,true_and,or_assoc]
  ·obtain⟨h1,h2⟩:=JZ hp hn l t h;simp only[k_List_foldl_cons,hn t y hy];refine⟨h1,fun z=> ?_⟩;rw[h2];simp only[aS,exists_eq_or_imp,hy,false_and,false_or]
def UC (s:Str):Asc (tokens s)/\∀z,z∈tokens s↔z∈acR 32 (normal s)/\z≠[]:=by
 obtain⟨h1,h2⟩:=JZ (f:=xA) (p:=fun x=>x≠[]) (g:=id) (fun t x h=>if_pos h) (fun t x h=>if_neg h) (acR 32 (normal s)) [] .nil;refine⟨h1,fun z=>(h2 z).trans ?_⟩;constructor
 ·rintro(h|⟨x,h3,h4,rfl⟩)
  ·cases h
  ·exact⟨h3,h4⟩
 ·rintro⟨h3,h4⟩;exact .inr ⟨z,h3,h4,rfl⟩
def RP (s:Str):Asc (lY s)/\∀z,z∈lY s↔∃t∈tokens s,jD t≠[]/\z=jD t:=by
 obtain⟨h1,h2⟩:=JZ (f:=wU) (p:=fun x=>jD x≠[]) (g:=jD) (fun t x h=>if_pos h) (fun t x h=>if_neg h) (tokens s) [] .nil;exact⟨h1,fun z=>(h2 z).trans (by simp)⟩
def I1 (b:List Str)(x:Str):Bool:=b.any fun y=>decide (y=x)
def hasL_iff {b:List Str}{x:Str}:I1 b x=true↔x∈b:=by simp[I1]
def acN (a b:List Str):Asc (common a b)/\∀z,z∈common a b↔z∈a/\z∈b:=by
 obtain⟨h1,h2⟩:=JZ (f:=G7 b) (p:=fun x=>I1 b x=true) (g:=id) (fun t x h=>if_pos h) (fun t x h=>if_neg h) a [] .nil;refine⟨h1,fun z=>(h2 z).trans ?_⟩;constructor
 ·rintro(h|⟨x,h3,h4,rfl⟩)
  ·cases h
  ·exact⟨h3,hasL_iff.1 h4⟩
 ·rintro⟨h3,h4⟩;exact .inr ⟨z,h3,hasL_iff.2 h4,rfl⟩
def mcount:List Str->List Str->Nat
 |[],_=>0
 |_::_,[]=>0
 |a::x,b::y=>if ltL a b=true then mcount x (b::y)else if ltL b a=true then mcount (a::x) y else mcount x y+1
termination_by x y=>x.length+y.length
def akU {a:List Str}{p:Str->Bool}(h:∀x∈a,p x=false):a.filter p=[]:=rO.2 fun x hx=>by simp[h x hx]
def P8:∀{a b:List Str},Asc a->Asc b->mcount a b=(a.filter (I1 b)).length
 |[],b,_,_=>by rw[mcount];rfl
 |a::x,[],_,_=>by rw[mcount,akU (p:=I1 []) (fun _ _=>rfl)];rfl
 |a::x,b::y,ha,hb=>by
  obtain⟨ha1,ha2⟩:=dV.1 ha;obtain⟨hb1,hb2⟩:=dV.1 hb;rw[mcount];split
  ·rename_i h;rw[P8 ha2 hb,qM];intro hm;rcases aS.1 (hasL_iff.1 hm)with rfl|hm
   ·rw[jU]at h;cases h
   ·have:=zI h (hb1 a hm);rw[jU]at this;cases this
  ·rename_i h;split
   ·rename_i h2;rw[P8 ha hb2];congr 1;refine xQ fun z hz=> ?_;rw[bH,hasL_iff,hasL_iff,aS];constructor
    ·exact .inr
    ·rintro(rfl|h3)
     ·exfalso;rcases aS.1 hz with rfl|hz
      ·rw[jU]at h2;cases h2
      ·have:=zI h2 (ha1 z hz);rw[jU]at this;cases this
     ·exact h3
   ·rename_i h2
    have hab:a=b:=by
     rcases EU a b with e|e|e
     ·exact absurd e h
     ·exact e
     ·exact absurd e h2
    subst hab;rw[P8 ha2 hb2,mK (hasL_iff.2 (by simp)),aR];congr 2;refine xQ fun z hz=> ?_;rw[bH,hasL_iff,hasL_iff,aS];constructor
    ·exact .inr
    ·rintro(rfl|h3)
     ·exfalso;have:=ha1 z hz;rw[jU]at this;cases this
     ·exact h3
termination_by x y=>x.length+y.length
def asH {a b:List Str}(ha:Asc a):common a b=a.filter (I1 b):=
 Asc.unique (acN a b).1 (oL _ ha) fun z=>by rw[(acN a b).2,dY,hasL_iff]
def afL {l:List Str}(hl:Asc l)(x:Str):(jP l x false).length=l.length+if I1 l x then 0 else 1:=by
 induction l with
 |nil=>simp[jP,BD,I1]
 |cons y l ih=>
  obtain⟨h1,h2⟩:=dV.1 hl;rw[PK];split
  ·rename_i h;have hyx:y≠x:=fun e=>by subst e;rw[jU]at h;cases h
   have:I1 (y::l) x=I1 l x:=by simp[I1,hyx]
   rw[this,aR,ih h2,aR];omega
  ·split
   ·rename_i h;have:I1 (y::l) x=true:=hasL_iff.2 (by simp[h]);rw[this];simp
   ·rename_i h h3
    have:I1 (y::l) x=false:=by
     rw[jR];intro hm;rcases aS.1 (hasL_iff.1 hm)with e|e
     ·exact h3 e.symm
     ·have:=h1 x e;exact h this
    rw[this];simp
def aqA {a b:List Str}(ha:Asc a)(hb:Asc b):(XN a b).length+(a.filter (I1 b)).length=a.length+b.length:=by
 have h1:a.foldl xB []=a:=by
  obtain⟨h1,h2⟩:=JZ (f:=xB) (p:=fun _=>True) (g:=id) (fun t x h=>rfl) (fun t x h=>absurd trivial h) a [] .nil;exact Asc.unique h1 ha fun z=>(h2 z).trans (by simp)
 have h2:∀(b t:List Str),Asc b->Asc t->(b.foldl xB t).length+(b.filter (I1 t)).length=t.length+b.length:=by
  intro b
  induction b with
  |nil=>intro t _ _;simp
  |cons y b ih=>
   intro t hb ht;obtain⟨hb1,hb2⟩:=dV.1 hb;have h3:=ih (jP t y false) hb2 (UB ht);have h4:=afL ht y
   have h5:b.filter (I1 (jP t y false))=b.filter (I1 t):=xQ fun z hz=>by
    rw[bH,hasL_iff,hasL_iff,AU];constructor
    ·rintro(h|rfl)
     ·exact h
     ·have:=hb1 z hz;rw[jU]at this;cases this
    ·exact .inl
   rw[h5]at h3;simp only[k_List_foldl_cons,aR];show(b.foldl xB (jP t y false)).length+_=_;by_cases h:I1 t y=true
   ·rw[mK h,aR];rw[h]at h4;simp at h4;omega
   ·rw[qM h];simp only[h,dP,if_false]at h4;omega
 have h3:=h2 b a hb ha
 have h4:b.filter (I1 a)=a.filter (I1 b):=Asc.unique (oL _ hb) (oL _ ha) fun z=>by
  rw[dY,dY,hasL_iff,hasL_iff,and_comm]
 unfold XN;rw[h1,←h4];exact h3
def TF (a b:List Str):AA a b=if vL a b=true then(if(a.length:Int)+b.length-mcount a b=0 then 1000 else(1000*(mcount a b:Int)).tdiv ((a.length:Int)+b.length-mcount a b))else 0:=by
 unfold AA;split
 ·rename_i h;simp only[vL,pR,k_Bool_and_eq_true]at h;have ha:=UH.1 h.1.2;have hb:=UH.1 h.2.2;have h1:=aqA ha hb;rw[P8 ha hb,asH ha,ratio];have h2:((XN a b).length:Int)=a.length+b.length-(a.filter (I1 b)).length:=by omega
  rw[h2]
 ·rfl
def IU (c:UInt8):Bool:=(decide (97<=c.toNat)&&decide (c.toNat<=122))||(decide (48<=c.toNat)&&decide (c.toNat<=57))
def RU (c:UInt8):IU c=true↔wL c=true/\iL c=c:=by
 simp only[IU,wL,bI,k_Bool_and_eq_true,decide_eq_true_eq];constructor
 ·intro h;exact⟨by omega,P6⟩
 ·rintro⟨h1,h2⟩;rcases h1 with h1|h1
  ·rcases h1 with h1|h1
   ·exact .inl h1
   ·exfalso;have:=abN h1.1 h1.2;rw[h2]at this;omega
  ·exact .inr h1
def aCQ (c:Str):Q5 c=(decide (c≠[])&&c.all IU):=by
 unfold Q5 vG;rw[wS];congr 1;rw[bH,k_Bool_and_eq_true,decide_eq_true_eq,aI,aI];constructor
 ·rintro⟨h1,h2⟩ x hx;refine(RU x).2 ⟨h1 x hx,?_⟩;have:=List.map_inj_left.1 (h2.trans (List.map_id c).symm) x hx;simpa using this
 ·intro h;refine⟨fun x hx=>((RU x).1 (h x hx)).1,?_⟩;exact(uZ fun x hx=>((RU x).1 (h x hx)).2).trans (by simp)
def blkIn (l:L1)(i:Nat)(o:L2):L2:=if at1 l i=o.length then o++[[]]else o
def oH (l:L1)(i:Nat)(o:L2):L2:=(blkIn l i o).set (at1 l i).toNat (gat (blkIn l i o) (at1 l i).toNat++[(i:Int)])
def blocksP (l:L1):L2:=loopN l.length [] (oH l)
structure ae3 (l:L1) (i:Nat) (o:L2):Prop where
 lt:∀j<i,at1 l j<o.length
 ex:∀v:Int,0<=v->v<o.length->∃j<i,at1 l j=v
 len:o.length<=i
 row:∀v:Nat,v<o.length->gat o v=((List.range i).filter fun j=>decide (at1 l j=v)).map fun j:Nat=>(j:Int)
variable {k:Nat}
def aq3 {o:L2}{r:L1}(v:Nat)(hk:k<o.length):gat (o.set k r) v=if k=v then r else gat o v:=by
 simp only[gat,aC,jT];by_cases h:k=v
 ·subst h;simp[hk]
 ·simp[h]
def axB (o:L2)(r:L1)(v:Nat):gat (o++[r]) v=if v=o.length then r else gat o v:=by
 simp only[gat,aC];by_cases h:v<o.length
 ·rw[aW h,if_neg (by omega)]
 ·by_cases h2:v=o.length
  ·subst h2;simp
  ·rw[if_neg h2,k_List_getElem__eq_none (by simp;omega),k_List_getElem__eq_none (by omega)]
def ae3.zero (l:L1):ae3 l 0 []:=⟨fun j hj=>by omega,fun v h1 h2=>by simp at h2;omega,by simp,fun v hv=>by simp at hv⟩
variable {i:Nat}
def ae3.le {l:L1}{o:L2}(h:ae3 l i o)(hr:RG l)(hi:i<l.length):0<=at1 l i/\at1 l i<=o.length:=by
 obtain⟨h1,h2⟩:=hr i hi;refine⟨h1,?_⟩;rcases wB (o.length:Int) (at1 l i)with hlt|hle
 ·obtain⟨j,hj,e⟩:=h2 o.length (by omega) hlt;have:=h.lt j hj;omega
 ·exact hle
def ae3.step {l:L1}{i:Nat}{o:L2}(h:ae3 l i o)(hr:RG l)(hi:i<l.length):(at1 l i).toNat<(blkIn l i o).length/\ae3 l (i+1) (oH l i o):=by
 have hle:=h.le hr hi
 have hin:(blkIn l i o).length=(if at1 l i=o.length then o.length+1 else o.length)/\∀v:Nat,gat (blkIn l i o) v=if v<o.length then gat o v else[]:=by
  unfold blkIn;split
  ·refine⟨by simp,fun v=> ?_⟩;rw[axB];split
   ·rw[if_neg (by omega)]
   ·split
    ·rfl
    ·simp[gat,aC,k_List_getElem__eq_none (show o.length<=v by omega)]
  ·refine⟨rfl,fun v=> ?_⟩;split
   ·rfl
   ·simp[gat,aC,k_List_getElem__eq_none (show o.length<=v by omega)]
 have hlt:(at1 l i).toNat<(blkIn l i o).length:=by rw[hin.1];split<;>omega
 refine⟨hlt,?_⟩;have hlen:(oH l i o).length=(if at1 l i=o.length then o.length+1 else o.length):=by simp[oH,hin.1]
 refine⟨fun j hj=> ?_,fun v h1 h2=> ?_,?_,fun v hv=> ?_⟩
 ·by_cases hji:j=i
  ·subst hji;rw[hlen];split<;>omega
  ·have:=h.lt j (by omega);rw[hlen];split<;>omega
 ·rw[hlen]at h2;by_cases hv:v<o.length
  ·obtain⟨j,hj,e⟩:=h.ex v h1 hv;exact⟨j,by omega,e⟩
  ·refine⟨i,by omega,?_⟩;split at h2<;>omega
 ·have:=h.len;rw[hlen];split<;>omega
 ·rw[hlen]at hv;rw[oH,aq3 v hlt,hin.2,hin.2,gD,gY,jB];by_cases hvi:(at1 l i).toNat=v
  ·rw[if_pos hvi];have hd:decide (at1 l i=(v:Int))=true:=by simp;omega
   simp only[List.filter_cons,hd,if_true,List.filter_nil,gP,List.map_nil];congr 1;rw[hvi];split
   ·rename_i hvo;exact h.row v hvo
   ·-- a row that is new:no earlier item has its label
    rename_i hvo;rw[rO.2,List.map_nil];intro j hj;have:=h.lt j (aZ.1 hj);simp;omega
  ·rw[if_neg hvi];have hd:decide (at1 l i=(v:Int))=false:=by simp;omega
   have hvo:v<o.length:=by
    split at hv
    ·omega
    ·exact hv
   simp[hd,if_pos hvo,h.row v hvo]
def blocksI {l:L1}(hr:RG l)(hi:i<=l.length):ae3 l i (loopN i [] (oH l)):=by
 induction i with
 |zero=>exact .zero l
 |succ i ih=>rw[aL];exact((ih (by omega)).step hr (by omega)).2
def kF (m:L2)(items:L1):L2:=items.map fun x=>items.map fun y=>at2 m x.toNat y.toNat
def M3 (n:Nat)(items:L1):Prop:=(∀x∈items,0<=x/\x<n)/\items.Pairwise (·<·)
structure S20 where
 best:L1
 cost:Int
 count:Int
def aoC (cs:List Con)(l:L1):Bool:=cs.any fun c=>decide (c.b=(l.length:Int)-1)&&(decide (at1 l c.a.toNat=at1 l (l.length-1)) !=c.same)
def AV (m:L2)(l:L1)(k:Int)(n i:Nat):Int:=if at2 m i n>0/\at1 l i≠k then at2 m i n else if at2 m i n<0/\at1 l i=k then-at2 m i n else 0
def abZ (m:L2)(l:L1)(k:Int)(n:Nat)(c:Int):Int:=loopN n c fun i s=>s+AV m l k n i
def TG (l:L1)(cost:Int)(s:S20):S20:=if s.cost<0\/cost<s.cost then⟨l,cost,1⟩else⟨s.best,s.cost,s.count+1⟩
def R9 (cost:Int)(s:S20):Prop:=0<=s.cost/\s.cost<cost
instance(cost:Int) (s:S20):Decidable (R9 cost s):=by unfold R9;infer_instance
def walk20 (m:L2)(cs:List Con):Nat->L1->Int->Int->S20->S20
 |0,l,_,cost,s=>if R9 cost s then s else TG l cost s
 |d+1,l,top,cost,s=>if R9 cost s then s else loopN (top+2).toNat s fun k s=>if aoC cs (l++[(k:Int)])=true then s else walk20 m cs d (l++[(k:Int)]) (max top k) (abZ m l k l.length cost) s
def CJ (m:L2)(cs:List Con)(d:Nat)(l:L1)(top cost:Int)(k:Nat)(s:S20):S20:=if aoC cs (l++[(k:Int)])=true then s else walk20 m cs d (l++[(k:Int)]) (max top k) (abZ m l k l.length cost) s
def walk20_succ (m:L2)(cs:List Con)(d:Nat)(l:L1)(top cost:Int)(s:S20):walk20 m cs (d+1) l top cost s=if R9 cost s then s else loopN (top+2).toNat s (CJ m cs d l top cost):=rfl
def ZX (m:L2)(cs:List Con):S20:=walk20 m cs m.length [] (-1) 0 ⟨[], -1,0⟩
def av3 {m:L2}(h:bP m=true)(l:L1)(k:Int)(n i:Nat):0<=AV m l k n i/\AV m l k n i<=1000:=by
 have:=iH h i n;unfold AV;split
 ·omega
 ·split<;>omega
def avE {m:L2}(h:bP m=true)(l:L1)(k:Int)(n:Nat)(c:Int)(j:Nat):c<=loopN j c (fun i s=>s+AV m l k n i)/\loopN j c (fun i s=>s+AV m l k n i)<=c+1000*j:=
 loopN_inv (fun j x=>c<=x/\x<=c+1000*j) (by omega) fun i x _ hx=>by have:=av3 h l k n i;omega
def aGH (d:Nat):1<=9^d:=Nat.one_le_pow _ _ (by omega)
structure W20 (d:Nat) (n:Nat) (s s':S20):Prop where
 lo:0<=s.count->0<=s'.count
 hi:0<=s.count->s'.count<=s.count+(9^d:Nat)
 best:s'.best=s.best\/s'.best.length=n
def anZ {m:L2}{cs:List Con}:∀(d:Nat) (l:L1) (top cost:Int) (s:S20),top+2+d<=9->W20 d (l.length+d) s (walk20 m cs d l top cost s)
 |0,l,top,cost,s,_=>by
  unfold walk20;split
  ·exact⟨id,fun h=>by simp;omega,.inl rfl⟩
  ·unfold TG;split
   ·exact⟨fun _=>by simp,fun h=>by simp;omega,.inr rfl⟩
   ·exact⟨fun h=>by simp only;omega,fun h=>by simp,.inl rfl⟩
 |d+1,l,top,cost,s,ht=>by
  rw[walk20_succ];have hp:=aGH d;split
  ·exact⟨id,fun h=>by omega,.inl rfl⟩
  ·have key:∀j≤(top+2).toNat,(0<=s.count->0<=(loopN j s (CJ m cs d l top cost)).count/\(loopN j s (CJ m cs d l top cost)).count<=s.count+((j*9^d:Nat):Int))/\((loopN j s (CJ m cs d l top cost)).best=s.best\/(loopN j s (CJ m cs d l top cost)).best.length=l.length+(d+1)):=by
    intro j hj
    induction j with
    |zero=>exact⟨fun h=>⟨h,by simp[loopN_zero]⟩,.inl rfl⟩
    |succ j ih=>
     obtain⟨i1,i2⟩:=ih (by omega);rw[aL];generalize loopN j s (CJ m cs d l top cost)=x at i1 i2|-
     unfold CJ;have hmul:(j+1)*9^d=j*9^d+9^d:=by rw[k_Nat_add_mul,Nat.one_mul]
     split
     ·exact⟨fun h=>⟨(i1 h).1,by have:=(i1 h).2;rw[hmul];omega⟩,i2⟩
     ·have h3:=anZ (m:=m) (cs:=cs) d (l++[(j:Int)]) (max top j) (abZ m l j l.length cost) x (by omega);refine⟨fun h=>⟨h3.lo (i1 h).1,by have:=h3.hi (i1 h).1;have:=(i1 h).2;rw[hmul];omega⟩,?_⟩;rcases h3.best with e|e
      ·rw[e];exact i2
      ·right;rw[e,aO,dZ];omega
   obtain⟨k1,k2⟩:=key _ (k_Nat_le_refl _);have hm:(top+2).toNat*9^d<=9*9^d:=aU _ (by omega);have hs:9^(d+1)=9*9^d:=by rw[Nat.pow_succ,qC]
   exact⟨fun h=>(k1 h).1,fun h=>by have:=(k1 h).2;rw[hs];omega,k2⟩
def mY (cs:List Con)(l:L1):Bool:=cs.all (xE l)
def lZ (m:L2)(cs:List Con)(l:L1)(s:S20):S20:=
 if mY cs l=true then(if s.cost<0\/dL m l<s.cost then⟨l,dL m l,1⟩else if dL m l=s.cost then⟨s.best,s.cost,s.count+1⟩else s)else s
def pK (f:L1->S20->S20):Nat->L1->Nat->S20->S20
 |0,l,_,s=>f l s
 |d+1,l,nx,s=>loopN (nx+1) s fun x s=>pK f d (l++[(x:Int)]) (max nx (x+1)) s
def xI (m:L2)(cs:List Con):S20:=pK (lZ m cs) m.length [] 0 ⟨[], -1,0⟩
def okP (cs:List Con)(l:L1):Prop:=∀c∈cs,c.b<l.length->decide (at1 l c.a.toNat=at1 l c.b.toNat)=c.same
def kY (l:L1)(k:Int)(i:Nat):at1 (l++[k]) i=if i<l.length then at1 l i else if i=l.length then k else 0:=by
 simp only[at1,aC];by_cases h:i<l.length
 ·rw[aW h,if_pos h]
 ·rw[if_neg h];by_cases h2:i=l.length
  ·subst h2;simp
  ·rw[if_neg h2,k_List_getElem__eq_none (by simp;omega)];rfl
variable {x:Nat}
variable {n:Nat}
section
variable {m:L2}{cs:List Con}
def ad9 {n:Int}(hc:cB n cs=true)(l:L1)(k:Int):okP cs (l++[k])↔okP cs l/\aoC cs (l++[k])=false:=by
 have hn:=(lQ hc).2.2.2;have hlen:(l++[k]).length=l.length+1:=by simp
 constructor
 ·intro h;refine⟨fun c hcs hb=> ?_,?_⟩
  ·have:=h c hcs (by rw[hlen];omega);have h2:=hn c hcs;rw[kY,kY,if_pos (by omega),if_pos (by omega)]at this;exact this
  ·rw[aoC,fD];intro c hcs hb;simp only[k_Bool_and_eq_true,decide_eq_true_eq,bne_iff_ne,ne_eq]at hb;have h2:=hn c hcs;have:=h c hcs (by rw[hlen]at hb|-;omega);apply hb.2;rw[←this,hlen];have e:c.b.toNat=l.length:=by rw[hlen]at hb;omega
   rw[e];rfl
 ·rintro⟨h1,h2⟩ c hcs hb;have h3:=hn c hcs;by_cases hlt:c.b<l.length
  ·have:=h1 c hcs hlt;rw[kY,kY,if_pos (by omega),if_pos (by omega)];exact this
  ·rw[aoC,fD]at h2;have h4:=h2 c hcs;rw[hlen]at hb h4;have e:c.b.toNat=l.length:=by omega
   simp only[k_Bool_and_eq_true,decide_eq_true_eq,bne_iff_ne,ne_eq,not_and,Classical.not_not]at h4;rw[e];exact h4 (by omega)
def YR {n:Int}(hc:cB n cs=true){l:L1}(hl:(l.length:Int)=n):mY cs l=true↔okP cs l:=by
 have hn:=(lQ hc).2.2.2;rw[mY,aI];constructor
 ·intro h c hcs hb;have:=h c hcs;simp only[xE,k_Bool_and_eq_true,beq_iff_eq]at this;exact this.2
 ·intro h c hcs;have h2:=hn c hcs;have:=h c hcs (by omega);simp only[xE,k_Bool_and_eq_true,beq_iff_eq,decide_eq_true_eq];exact⟨⟨by omega,by omega⟩,this⟩
def aB4 {n:Int}(hc:cB n cs=true){l:L1}(h:¬okP cs l)(k:Int):¬okP cs (l++[k]):=fun h2=>h ((ad9 hc l k).1 h2).1
def af4 {n:Int}(hc:cB n cs=true):∀(d:Nat) (l:L1) (nx:Nat) (s:S20),((l.length+d:Nat):Int)=n->¬okP cs l->pK (lZ m cs) d l nx s=s
 |0,l,nx,s,hl,h=>by
  rw[pK,lZ,if_neg];intro hk;exact h ((YR hc (by simpa using hl)).1 hk)
 |d+1,l,nx,s,hl,h=>by
  rw[pK];refine loopN_inv (fun _ x=>x=s) rfl fun i x _ hx=> ?_;rw[hx];exact af4 hc d _ _ s (by simp only[aO,dZ];omega) (aB4 hc h _)
def UJ (hm:bP m=true)(i k:Nat):at2 m i k=at2 m k i:=by
 by_cases hi:i<m.length
 ·by_cases hk:k<m.length
  ·simp only[bP,k_Bool_and_eq_true,aI,aZ]at hm;have:=hm.1.2 i hi k hk;simp only[GG,k_Bool_and_eq_true,decide_eq_true_eq]at this;exact this.1.2
  ·obtain⟨r,hr,hrl⟩:=CB hm hi;simp[at2,aC,hr,k_List_getElem__eq_none (show r.length<=k by omega),k_List_getElem__eq_none (show m.length<=k by omega)]
 ·by_cases hk:k<m.length
  ·obtain⟨r,hr,hrl⟩:=CB hm hk;simp[at2,aC,hr,k_List_getElem__eq_none (show r.length<=i by omega),k_List_getElem__eq_none (show m.length<=i by omega)]
  ·simp[at2,aC,k_List_getElem__eq_none (show m.length<=i by omega),k_List_getElem__eq_none (show m.length<=k by omega)]
def wH {σ:Type}{s:σ}{f g:Nat->σ->σ}(h:∀i x,i<n->f i x=g i x):loopN n s f=loopN n s g:=by
 have:∀k≤n,loopN k s f=loopN k s g:=by
  intro k hk
  induction k with
  |zero=>rfl
  |succ k ih=>rw[aL,aL,ih (by omega),h _ _ (by omega)]
 exact this n (k_Nat_le_refl n)
def RJ (hm:bP m=true)(l:L1)(k:Int):dL m (l++[k])=abZ m l k l.length (dL m l):=by
 unfold dL;rw[aO,dZ,aL]
 have h1:loopN l.length 0 (yJ m (l++[k]))=loopN l.length 0 (yJ m l):=wH fun i x hi=>by
  unfold yJ;refine wH fun j y hj=> ?_
  have:sG m (l++[k]) i j=sG m l i j:=by
   have e1:at1 (l++[k]) i=at1 l i:=by rw[kY,if_pos hi]
   have e2:at1 (l++[k]) j=at1 l j:=by rw[kY,if_pos (by omega)]
   unfold sG;rw[e1,e2]
  rw[this]
 rw[h1];unfold yJ abZ;refine wH fun j y hj=> ?_;congr 1;have e1:at1 (l++[k]) l.length=k:=by rw[kY,if_neg (by omega),if_pos rfl]
 have e2:at1 (l++[k]) j=at1 l j:=by rw[kY,if_pos hj]
 unfold sG AV;rw[e1,e2,UJ hm l.length j];by_cases e:at1 l j=k
 ·simp[e]
 ·have e2:¬k=at1 l j:=fun h=>e h.symm;simp[e,e2]
def afI (hm:bP m=true)(l:L1)(k:Int):dL m l<=dL m (l++[k]):=by
 rw[RJ hm];exact(avE hm l k l.length (dL m l) l.length).1
def acW (hm:bP m=true):∀(d:Nat) (l:L1) (nx:Nat) (s:S20),R9 (dL m l) s->pK (lZ m cs) d l nx s=s
 |0,l,nx,s,h=>by
  unfold R9 at h;rw[pK,lZ];split
  ·rw[if_neg (by omega),if_neg (by omega)]
  ·rfl
 |d+1,l,nx,s,h=>by
  unfold R9 at h;rw[pK];refine loopN_inv (fun _ x=>x=s) rfl fun i x _ hx=> ?_;rw[hx];refine acW hm d _ _ s ?_;have:=afI hm l (i:Int);unfold R9;omega
def ahL (hm:bP m=true)(hc:cB m.length cs=true):∀(d:Nat) (l:L1) (top:Int) (s:S20),l.length+d=m.length-> -1<=top->okP cs l->walk20 m cs d l top (dL m l) s=pK (lZ m cs) d l (top+1).toNat s
 |0,l,top,s,hl,ht,ho=>by
  have hk:=(YR hc (l:=l) (by omega)).2 ho;rw[walk20,pK,lZ,if_pos hk];split
  ·rename_i h;unfold R9 at h;rw[if_neg (by omega),if_neg (by omega)]
  ·rename_i h;unfold R9 at h;unfold TG;split
   ·rfl
   ·rw[if_pos (by omega)]
 |d+1,l,top,s,hl,ht,ho=>by
  rw[walk20_succ];split
  ·rename_i h;rw[acW hm _ _ _ _ h]
  ·rw[pK,show(top+2).toNat=(top+1).toNat+1 by omega];refine wH fun i x hi=> ?_;unfold CJ;have hlen:(l++[(i:Int)]).length=l.length+1:=by simp
   split
   ·rename_i hb;rw[af4 hc d _ _ x (by rw[hlen];omega)];intro h2;have:=((ad9 hc l i).1 h2).2;rw[hb]at this;cases this
   ·rename_i hb;have hok:=(ad9 hc l i).2 ⟨ho,by simpa using hb⟩;rw[←RJ hm,ahL hm hc d _ _ x (by rw[hlen];omega) (by omega) hok];congr 1;omega
def XB (hm:bP m=true)(hc:cB m.length cs=true):ZX m cs=xI m cs:=
 ahL hm hc m.length [] (-1) _ (by simp) (by omega) (fun c hcs hb=>by have:=(lQ hc).2.2.2 c hcs;simp at hb;omega)
def UG {l:L1}{nx:Nat}(hl:RG l)(hnx:∀v:Int,0<=v->v<nx->∃j<l.length,at1 l j=v)(hx:x<=nx:=by omega):RG (l++[(x:Int)]):=by
 intro k hk;simp only[aO,dZ]at hk;by_cases hkl:k<l.length
 ·rw[kY,if_pos hkl];refine⟨(hl k hkl).1,fun v h1 h2=> ?_⟩;obtain⟨j,hj,e⟩:=(hl k hkl).2 v h1 h2;exact⟨j,hj,by rw[kY,if_pos (by omega),e]⟩
 ·obtain rfl:k=l.length:=by omega
  rw[kY,if_neg (by omega),if_pos rfl];refine⟨by omega,fun v h1 h2=> ?_⟩;obtain⟨j,hj,e⟩:=hnx v h1 (by omega);exact⟨j,hj,by rw[kY,if_pos hj,e]⟩
def aiX {l:L1}{nx:Nat}(hnx:∀v:Int,0<=v->v<nx->∃j<l.length,at1 l j=v)(hx:x<=nx:=by omega):∀v:Int,0<=v->v<(max nx (x+1):Nat)->∃j<(l++[(x:Int)]).length,at1 (l++[(x:Int)]) j=v:=by
 intro v h1 h2;by_cases hv:v<nx
 ·obtain⟨j,hj,e⟩:=hnx v h1 hv;exact⟨j,by simp;omega,by rw[kY,if_pos hj,e]⟩
 ·exact⟨l.length,by simp,by rw[kY,if_neg (by omega),if_pos rfl];omega⟩
def Found (n:Nat)(s:S20):Prop:= -1<=s.cost/\(0<=s.cost->RG s.best/\s.best.length=n)
def kG (hm:bP m=true)(l:L1):0<=dL m l:=by
 refine loopN_inv (fun _ x=>0<=x) (by omega) fun i x _ hx=> ?_;refine loopN_inv (fun _ y=>0<=y) hx fun k y _ hy=> ?_;have:=iH hm i k;unfold sG;split
 ·omega
 ·split<;>omega
def NH (hm:bP m=true):∀(d:Nat) (l:L1) (nx:Nat) (s:S20),RG l->(∀v:Int,0<=v->v<nx->∃j<l.length,at1 l j=v)->Found (l.length+d) s->Found (l.length+d) (pK (lZ m cs) d l nx s)/\(0<=s.cost->0<=(pK (lZ m cs) d l nx s).cost)
 |0,l,nx,s,hl,hnx,hs=>by
  have hp:=kG hm l;rw[pK,lZ];split
  ·split
   ·exact⟨⟨by simp only;omega,fun _=>⟨hl,rfl⟩⟩,fun _=>hp⟩
   ·split
    ·exact⟨⟨hs.1,hs.2⟩,fun h=>h⟩
    ·exact⟨hs,fun h=>h⟩
  ·exact⟨hs,fun h=>h⟩
 |d+1,l,nx,s,hl,hnx,hs=>by
  rw[pK];refine loopN_inv (fun _ x=>Found (l.length+(d+1)) x/\(0<=s.cost->0<=x.cost)) ⟨hs,fun h=>h⟩ fun i x hi ⟨h1,h2⟩=> ?_;have hlen:(l++[(i:Int)]).length+d=l.length+(d+1):=by simp;omega
  have h3:=NH hm d (l++[(i:Int)]) (max nx (i+1)) x (UG hl hnx) (aiX hnx) (by rw[hlen];exact h1);rw[hlen]at h3;exact⟨h3.1,fun h=>h3.2 (h2 h)⟩
def ZC (hm:bP m=true):∀(d:Nat) (l e:L1) (nx:Nat) (s:S20),RG (l++e)->e.length=d->(∀v:Int,0<=v->v<nx->∃j<l.length,at1 l j=v)->(∀j<l.length,at1 l j<nx)->RG l->Found (l.length+d) s->mY cs (l++e)=true->0<=(pK (lZ m cs) d l nx s).cost
 |0,l,e,nx,s,hr,he,hnx,hlt,hl,hs,hk=>by
  obtain rfl:e=[]:=bB he;rw[dQ]at hk;have hp:=kG hm l;rw[pK,lZ,if_pos hk];split
  ·exact hp
  ·split
   ·simp only;omega
   ·omega
 |d+1,l,e,nx,s,hr,he,hnx,hlt,hl,hs,hk=>by
  cases e with
  |nil=>simp at he
  |cons x e=>
   have hlx:at1 (l++x::e) l.length=x:=by simp[at1,aC]
   have hx:=hr l.length (by simp);rw[hlx]at hx
   have hxn:x<=nx:=by
    rcases wB (nx:Int) x with hlt2|hle
    ·obtain⟨j,hj,ej⟩:=hx.2 nx (by omega) hlt2;have e2:at1 (l++x::e) j=at1 l j:=by simp[at1,aC,aW hj]
     rw[e2]at ej;have:=hlt j hj;omega
    ·exact hle
   obtain⟨x,rfl⟩:∃k:Nat,x=k:=⟨x.toNat,by omega⟩;rw[pK]
   have key:∀j≤nx+1,Found (l.length+(d+1)) (loopN j s fun x s=>pK (lZ m cs) d (l++[(x:Int)]) (max nx (x+1)) s)/\(x<j->0<=(loopN j s fun x s=>pK (lZ m cs) d (l++[(x:Int)]) (max nx (x+1)) s).cost):=by
    intro j hj
    induction j with
    |zero=>exact⟨hs,by omega⟩
    |succ j ih=>
     obtain⟨i1,i2⟩:=ih (by omega);rw[aL];generalize(loopN j s fun x s=>pK (lZ m cs) d (l++[(x:Int)]) (max nx (x+1)) s)=y at i1 i2|-
     have hlen:(l++[(j:Int)]).length+d=l.length+(d+1):=by simp;omega
     have h3:=NH (cs:=cs) hm d (l++[(j:Int)]) (max nx (j+1)) y (UG hl hnx) (aiX hnx) (by rw[hlen];exact i1);rw[hlen]at h3;refine⟨h3.1,fun hlt2=> ?_⟩;by_cases hjx:j=x
     ·subst hjx;refine ZC hm d (l++[(j:Int)]) e (max nx (j+1)) y (by simpa using hr) (by simpa using he) (aiX hnx) (fun i hi=> ?_) (UG hl hnx) (by rw[hlen];exact i1) (by simpa using hk);rw[kY];simp only[aO,dZ]at hi;split
      ·have:=hlt i (by omega);omega
      ·split<;>omega
     ·exact h3.2 (i2 (by omega))
   exact(key (nx+1) (k_Nat_le_refl _)).2 (by omega)
def an2:RG []:=fun k hk=>by simp at hk
def ahV (hm:bP m=true):Found m.length (xI m cs):=by
 have:=(NH (cs:=cs) hm m.length [] 0 ⟨[], -1,0⟩ an2 (fun v h1 h2=>by omega) ⟨by simp,fun h=>by simp at h⟩).1;simpa[xI]using this
def ahW (hm:bP m=true){L:L1}(hL:RG L)(hl:L.length=m.length)(hk:mY cs L=true):0<=(xI m cs).cost:=
 ZC hm m.length [] L 0 _ (by simpa using hL) hl (fun v h1 h2=>by omega) (fun j hj=>by simp at hj) an2 ⟨by simp,fun h=>by simp at h⟩ (by simpa using hk)
end
def ab6 {M:List (List Bool)}(h:sqB n M){a b:Nat}(hi:i<n)(hk:k<n)(v:Bool):atB (Q4 M i k v) a b=if a=i/\b=k then v else atB M a b:=by
 obtain⟨r,hr,hrl,hrk⟩:=XH h hi hk;rw[XD hr];simp only[atB,aC,jT];by_cases ha:i=a
 ·subst ha;rw[if_pos rfl,if_pos (by rw[h.1];exact hi)];simp only[Option.getD_some,jT];by_cases hb:k=b
  ·subst hb;rw[if_pos rfl,if_pos (by omega)];simp
  ·rw[if_neg hb,if_neg (fun e=>hb e.2.symm)];simp[hr]
 ·rw[if_neg ha,if_neg (fun e=>ha e.1.symm)]
def avM (n a b:Nat):atB (noLinks n) a b=false:=by
 simp only[atB,noLinks,aC,eZ];split
 ·simp[eZ];split<;>rfl
 ·simp
def MC (c:Con)(a b:Nat):Prop:=c.same=true/\((c.a=a/\c.b=b)\/(c.a=b/\c.b=a))
def kX :∀(cs:List Con),(∀c∈cs,0<=c.a/\c.a<c.b/\c.b<n)->sqB n (mZ n cs)/\∀a b,atB (mZ n cs) a b=true↔∃c∈cs,MC c a b:=by
 have key:∀(cs:List Con) (M:List (List Bool)),(∀c∈cs,0<=c.a/\c.a<c.b/\c.b<n)->sqB n M->sqB n (cs.foldl mustStep M)/\∀a b,atB (cs.foldl mustStep M) a b=true↔atB M a b=true\/∃c∈cs,MC c a b:=by
  intro cs
  induction cs with
  |nil=>intro M _ h;exact⟨h,fun a b=>by simp⟩
  |cons c cs ih=>
   intro M hc h;have h1:=hc c (by simp)
   have hsq:sqB n (mustStep M c):=by
    unfold mustStep;split
    ·exact sqB_set (sqB_set h)
    ·exact h
   obtain⟨g1,g2⟩:=ih (mustStep M c) (fun c hcs=>hc c (bG _ hcs)) hsq;refine⟨g1,fun a b=> ?_⟩;rw[k_List_foldl_cons,g2]
   have hst:atB (mustStep M c) a b=true↔atB M a b=true\/MC c a b:=by
    unfold mustStep MC;split
    ·rename_i hs;rw[ab6 (sqB_set h) (by omega) (by omega),ab6 h (by omega) (by omega)];simp only[hs,true_and];by_cases e1:a=c.b.toNat/\b=c.a.toNat
     ·rw[if_pos e1];simp;right;right;omega
     ·rw[if_neg e1];by_cases e2:a=c.a.toNat/\b=c.b.toNat
      ·rw[if_pos e2];simp;right;left;omega
      ·rw[if_neg e2];constructor
       ·exact .inl
       ·rintro(h|h|h)
        ·exact h
        ·exact absurd ⟨by omega,by omega⟩ e2
        ·exact absurd ⟨by omega,by omega⟩ e1
    ·rename_i hs;simp[hs]
   rw[hst];simp only[aS,exists_eq_or_imp,or_assoc]
 intro cs hc;obtain⟨h1,h2⟩:=key cs (noLinks n) hc (aeU n);refine⟨h1,fun a b=>(h2 a b).trans ?_⟩;simp[avM]
def TI {c:Con}{a b:Nat}(h:MC c a b):MC c b a:=⟨h.1,by rcases h.2 with h|h;(exact .inr h);exact .inl h⟩
def atM {cs:List Con}(hc:∀c∈cs,0<=c.a/\c.a<c.b/\c.b<n):ajK n (mZ n cs):=fun a b _ _ h=>by
 obtain⟨c,h1,h2⟩:=((kX cs hc).2 a b).1 h;exact((kX cs hc).2 b a).2 ⟨c,h1,TI h2⟩
def tV {cs:List Con}(h:cB n cs=true):∀c∈cs,0<=c.a/\c.a<c.b/\c.b<(n:Int):=(lQ h).2.2.2
def nL {cs:List Con}(h:cB n cs=true):D8 n (mZ n cs) (eB n cs):=abM (atM (tV h))
def iU {cs:List Con}:eF n cs=true↔cB n cs=true/\∀c∈cs,c.same=false->¬Reach n (mZ n cs) c.a.toNat c.b.toNat:=by
 unfold eF vQ;rw[k_Bool_and_eq_true,decide_eq_true_eq];constructor
 ·rintro⟨h1,h2⟩;refine⟨h1,fun c hc hs hr=> ?_⟩;rw[if_pos h1]at h2;have hb:=tV h1 c hc;have h3:¬0<=ix (FJ (eB n cs)) cs:=by omega
  rw[iV]at h3;apply h3;rw[cK];refine⟨c,hc,?_⟩;have:=((nL h1).2.2 c.a.toNat c.b.toNat (by omega) (by omega)).2 hr;simp[FJ,hs,this]
 ·rintro⟨h1,h2⟩;refine⟨h1,?_⟩;rw[if_pos h1]
  have h3:¬0<=ix (FJ (eB n cs)) cs:=by
   rw[iV,cK];rintro⟨c,hc,hb⟩;simp only[FJ,k_Bool_and_eq_true,fU,decide_eq_true_eq]at hb;have hb2:=tV h1 c hc;exact h2 c hc hb.1 (((nL h1).2.2 c.a.toNat c.b.toNat (by omega) (by omega)).1 hb.2)
  omega
def Q8 {cs:List Con}(h:eF n cs=true):mY cs (eB n cs)=true:=by
 obtain⟨h1,h2⟩:=iU.1 h;have hL:=nL h1;rw[YR h1 (by rw[hL.1])];intro c hc hb;have hb2:=tV h1 c hc;have hi:=hL.2.2 c.a.toNat c.b.toNat (by omega) (by omega);cases hs:c.same with
 |true=>
  rw[decide_eq_true_eq,hi];exact .step (.refl _) (by omega) (by omega) (((kX cs (tV h1)).2 _ _).2 ⟨c,hc,hs,.inl ⟨by omega,by omega⟩⟩)
 |false=>
  rw[decide_eq_false_iff_not,hi];exact h2 c hc hs
def az9 {m:L2}{cs:List Con}(hm:bP m=true)(h:eF m.length cs=true):0<=(xI m cs).cost/\RG (xI m cs).best/\(xI m cs).best.length=m.length:=by
 have hL:=nL (iU.1 h).1;have h1:=ahW (cs:=cs) hm hL.2.1 hL.1 (Q8 h);exact⟨h1,(ahV hm).2 h1⟩
def zN {n:Int}{a b:List Con}(h:a.Perm b):cB n a=cB n b:=by
 have h1:a.all (MI n)=b.all (MI n):=h.all_eq;unfold cB;rw[h1,h.length_eq]
def WN {a b:List Con}(ha:cB n a=true)(hb:cB n b=true)(h:∀c,c∈a↔c∈b):eB n a=eB n b:=by
 have hla:=nL ha;have hlb:=nL hb
 have hm:∀x y,atB (mZ n a) x y=true↔atB (mZ n b) x y=true:=fun x y=>by
  rw[(kX a (tV ha)).2,(kX b (tV hb)).2];simp only[h]
 refine RG.unique (by rw[hla.1,hlb.1]) hla.2.1 hlb.2.1 fun i k hi hk=> ?_;rw[hla.1]at hi hk;rw[hla.2.2 i k hi hk,hlb.2.2 i k hi hk];exact⟨fun hr=>hr.mono fun x y _ _ e=>(hm x y).1 e,fun hr=>hr.mono fun x y _ _ e=>(hm x y).2 e⟩
def LZ {a b:List Con}(h:a.Perm b):eF n a=eF n b:=by
 rw[bH,iU,iU,zN h];refine and_congr_right fun hb=> ?_;have ha:cB n a=true:=by rw[zN h];exact hb
 have hm:∀x y,atB (mZ n a) x y=true↔atB (mZ n b) x y=true:=fun x y=>by
  rw[(kX a (tV ha)).2,(kX b (tV hb)).2];simp only[h.mem_iff]
 have hr:∀x y,Reach n (mZ n a) x y↔Reach n (mZ n b) x y:=fun x y=>⟨fun hr=>hr.mono fun x y _ _ e=>(hm x y).1 e,fun hr=>hr.mono fun x y _ _ e=>(hm x y).2 e⟩;simp only[h.mem_iff,hr]
def alJ {a b:List Con}(h:a.Perm b)(l:L1):mY a l=mY b l:=h.all_eq
def aoD {m:L2}{a b:List Con}(h:a.Perm b):lZ m a=lZ m b:=by
 funext l s;unfold lZ;rw[alJ h]
def ajU {m:L2}{a b:List Con}(h:a.Perm b):xI m a=xI m b:=by
 unfold xI;rw[aoD h]
def ai3 {a b:List Con}(h:a.Perm b)(items:L1):(iG a items).Perm (iG b items):=h.filterMap _
end Go.Pl
end
section
namespace Go
def jK:= @List.length_filterMap_le
def bM:= @List.length_filter_le
def dN:= @List.pairwise_iff_getElem
def xS:= @List.pairwise_map
end Go
end
section
namespace Go.Pl
open Go.Dv
variable {n:Nat}
def ak8 {n:Nat}(f:Nat->Nat->Bool):let L:=loopN n (noLinks n) fun i M=>loopN n M fun k M=>Q4 M i k (f i k);sqB n L/\∀a b,a<n->b<n->atB L a b=f a b:=by
 have key:∀i≤n,sqB n (loopN i (noLinks n) fun i M=>loopN n M fun k M=>Q4 M i k (f i k))/\∀a b,a<n->b<n->atB (loopN i (noLinks n) fun i M=>loopN n M fun k M=>Q4 M i k (f i k)) a b=if a<i then f a b else false:=by
  intro i hi
  induction i with
  |zero=>exact⟨aeU n,fun a b _ _=>by rw[loopN_zero,avM];simp⟩
  |succ i ih=>
   obtain⟨h1,h2⟩:=ih (by omega);rw[aL];generalize(loopN i (noLinks n) fun i M=>loopN n M fun k M=>Q4 M i k (f i k))=M at h1 h2|-
   have row:∀k≤n,sqB n (loopN k M fun k M=>Q4 M i k (f i k))/\∀a b,a<n->b<n->atB (loopN k M fun k M=>Q4 M i k (f i k)) a b=if a=i/\b<k then f a b else if a<i then f a b else false:=by
    intro k hk
    induction k with
    |zero=>exact⟨h1,fun a b ha hb=>by rw[loopN_zero,h2 a b ha hb,if_neg (c:=a=i/\b<0) (by omega)]⟩
    |succ k ih2=>
     obtain⟨g1,g2⟩:=ih2 (by omega);rw[aL];refine⟨sqB_set g1,fun a b ha hb=> ?_⟩;rw[ab6 g1 (by omega) (by omega)];by_cases e:a=i/\b=k
     ·obtain⟨rfl,rfl⟩:=e;rw[if_pos ⟨rfl,rfl⟩,if_pos ⟨rfl,by omega⟩]
     ·rw[if_neg e,g2 a b ha hb];by_cases e2:a=i/\b<k
      ·rw[if_pos e2,if_pos ⟨e2.1,by omega⟩]
      ·rw[if_neg e2,if_neg (c:=a=i/\b<k+1) (by omega)]
   obtain⟨g1,g2⟩:=row n (k_Nat_le_refl n);refine⟨g1,fun a b ha hb=> ?_⟩;rw[g2 a b ha hb];by_cases e:a=i
   ·subst e;rw[if_pos ⟨rfl,hb⟩,if_pos (by omega)]
   ·rw[if_neg (fun e2=>e e2.1)];by_cases e2:a<i
    ·rw[if_pos e2,if_pos (by omega)]
    ·rw[if_neg e2,if_neg (by omega)]
 obtain⟨h1,h2⟩:=key n (k_Nat_le_refl n);exact⟨h1,fun a b ha hb=>by rw[h2 a b ha hb,if_pos ha]⟩
def uD (m:L2):∀a b,a<m.length->b<m.length->atB (WW m) a b=decide (at2 m a b>0):=(ak8 fun i k=>decide (at2 m i k>0)).2
def I4 (p q:L1):∀a b,a<p.length->b<p.length->atB (PY p q) a b=(decide (at1 p a=at1 p b)||decide (at1 q a=at1 q b)):=(ak8 fun i k=>decide (at1 p i=at1 p k)||decide (at1 q i=at1 q k)).2
variable {m:L2}
def LG (hm:bP m=true):D8 m.length (WW m) (oO m):=abM fun a b ha hb h=>by
 rw[uD m a b ha hb]at h;rw[uD m b a hb ha,UJ hm b a];exact h
def ZG (p q:L1):D8 p.length (PY p q) (DL p q):=abM fun a b ha hb h=>by
 rw[I4 p q a b ha hb]at h;rw[I4 p q b a hb ha];simp only[bI,decide_eq_true_eq]at h|-
 rcases h with h|h
 ·exact .inl h.symm
 ·exact .inr h.symm
def aAC (hm:bP m=true):(abG m.length m).1=oO m:=
 av6 (fun a b ha hb=>by rw[uD m a b ha hb];simp) fun a b ha hb h=>by
  rw[uD m a b ha hb]at h;rw[uD m b a hb ha,UJ hm b a];exact h
variable {M:List (List Bool)}{l:L1}
def adW {M':List (List Bool)}{l':L1}(h:D8 n M l)(h':D8 n M' l')(hm:∀a b,a<n->b<n->a≠b->(atB M a b=true↔atB M' a b=true)):l=l':=by
 have hr:∀{M M':List (List Bool)},(∀a b,a<n->b<n->a≠b->(atB M a b=true->atB M' a b=true))->∀i k,Reach n M i k->Reach n M' i k:=by
  intro M M' hm i k hr
  induction hr with
  |refl=>exact .refl _
  | @step a b _ ha hb h ih=>
   by_cases hab:a=b
   ·subst hab;exact ih
   ·exact .step ih ha hb (hm a b ha hb hab h)
 refine RG.unique (by rw[h.1,h'.1]) h.2.1 h'.2.1 fun i k hi hk=> ?_;rw[h.1]at hi hk;rw[h.2.2 i k hi hk,h'.2.2 i k hi hk];exact⟨hr (fun a b ha hb hab=>(hm a b ha hb hab).1) i k,hr (fun a b ha hb hab=>(hm a b ha hb hab).2) i k⟩
def J5 (h:D8 n M l)(h1:1<=n)(h8:n<=8):fQ l=true:=isPart_iff.2 ⟨h.2.1,by rw[h.1];omega⟩
variable {cs:List Con}{X:L2}
def av7 (hc:cB n cs=true)(hX:bP X=true)(hl:X.length=n)(h:∀a b,a<n->b<n->(0<at2 X a b↔∃c∈cs,MC c a b)):oO X=eB n cs:=by
 have h1:=LG hX;rw[hl]at h1;refine adW h1 (nL hc) fun a b ha hb _=> ?_;rw[uD X a b (by omega) (by omega),decide_eq_true_eq,(kX cs (tV hc)).2];exact h a b ha hb
def av5 {p q:L1}(hX:bP X=true)(hl:X.length=p.length)(h:∀a b,a<p.length->b<p.length->a≠b->(0<at2 X a b↔at1 p a=at1 p b\/at1 q a=at1 q b)):oO X=DL p q:=by
 have h1:=LG hX;rw[hl]at h1;refine adW h1 (ZG p q) fun a b ha hb hab=> ?_;rw[uD X a b (by omega) (by omega),decide_eq_true_eq,I4 p q a b ha hb,bI,decide_eq_true_eq,decide_eq_true_eq];exact h a b ha hb hab
def IM (hm:bP m=true)(hc:cB m.length cs=true):dH m cs=DL (oO m) (eB m.length cs)/\fQ (dH m cs)=true/\(dH m cs).length=m.length:=by
 have hml:=dK hm;have h1:=LG hm;have h2:=nL hc
 have hp:lX (oO m) (eB m.length cs)=true:=by
  simp only[lX,k_Bool_and_eq_true,decide_eq_true_eq];exact⟨⟨J5 h1 hml.1 hml.2,J5 h2 hml.1 hml.2⟩,by rw[h1.1,h2.1]⟩
 have e:dH m cs=DL (oO m) (eB m.length cs):=by
  rw[dH,if_pos ⟨hm,hc⟩,alH,if_pos hp]
 have h3:=ZG (oO m) (eB m.length cs);rw[h1.1]at h3;rw[e];exact⟨rfl,J5 h3 hml.1 hml.2,h3.1⟩
def PO (hr:RG l){v:Nat}(hv:v<(blocksP l).length):M3 l.length (gat (blocksP l) v)/\1<=(gat (blocksP l) v).length/\(gat (blocksP l) v).length<=l.length:=by
 have hI:=blocksI hr (k_Nat_le_refl l.length);have hrow:=hI.row v hv;have e:gat (blocksP l) v=((List.range l.length).filter fun j=>decide (at1 l j=v)).map fun j:Nat=>(j:Int):=hrow;rw[e];refine⟨⟨fun x hx=> ?_,?_⟩,?_,?_⟩
 ·obtain⟨j,hj,rfl⟩:=dF.1 hx;have:=aZ.1 (dY.1 hj).1;omega
 ·rw[xS];refine oL _ (List.pairwise_lt_range.imp fun h=>by omega)
 ·obtain⟨j,hj,e2⟩:=hI.ex v (by omega) (by have:(blocksP l).length=(loopN l.length [] (oH l)).length:=rfl;omega);have hm:((j:Nat):Int)∈((List.range l.length).filter fun j=>decide (at1 l j=v)).map fun j:Nat=>(j:Int):=dF.2 ⟨j,dY.2 ⟨aZ.2 hj,by simpa using e2⟩,rfl⟩;exact List.length_pos_of_mem hm
 ·rw[aX];have:=bM (fun j=>decide (at1 l j=(v:Int))) (List.range l.length);simpa using this
variable {items:L1}
def ahU {i k:Nat}(hi:i<items.length)(hk:k<items.length):at2 (kF m items) i k=at2 m (at1 items i).toNat (at1 items k).toNat:=by
 have h1:=aV hi;have h2:=aV hk;refine M6 (r:=items.map fun y=>at2 m (at1 items i).toNat y.toNat) ?_ ?_
 ·simp[kF,h1]
 ·simp[h2]
def auT (hm:bP m=true)(hl:1<=items.length/\items.length<=8)(hs:items.Pairwise (·<·)):bP (kF m items)=true:=by
 have hlen:(kF m items).length=items.length:=by simp[kF]
 simp only[bP,k_Bool_and_eq_true,aI,aZ,decide_eq_true_eq];refine⟨⟨fun r hr=> ?_,fun i hi k hk=> ?_⟩,by rw[hlen];omega⟩
 ·obtain⟨x,_,rfl⟩:=dF.1 hr;simp[hlen]
 ·rw[hlen]at hi hk;simp only[GG,k_Bool_and_eq_true,decide_eq_true_eq,bI];rw[ahU hi hk,ahU hk hi];have h1:=iH hm (at1 items i).toNat (at1 items k).toNat;refine⟨⟨h1,UJ hm _ _⟩,?_⟩;by_cases e:i=k
  ·subst e;right;by_cases hx:(at1 items i).toNat<m.length
   ·simp only[bP,k_Bool_and_eq_true,aI,aZ]at hm;have:=hm.1.2 _ hx _ hx;simp only[GG,k_Bool_and_eq_true,decide_eq_true_eq,bI]at this;rcases this.2 with h|h
    ·exact absurd rfl h
    ·exact h
   ·simp[at2,aC,k_List_getElem__eq_none (show m.length<=(at1 items i).toNat by omega)]
  ·exact .inl e
def CL {x:Int}(h:0<=place items x):(place items x).toNat<items.length/\at1 items (place items x).toNat=x:=by
 unfold place ix at h|-
 cases hf:items.findIdx? (fun y=>decide (y=x))with
 |none=>rw[hf]at h;simp at h
 |some i=>
  simp only;obtain⟨hi,he,_⟩:=eY.1 hf;have h1:=aV hi;rw[aB hi]at h1;have:=k_Option_some_inj h1;exact⟨by omega,by rw[show((i:Int)).toNat=i by omega,←this];simpa using he⟩
def ay6 (hc:cB n cs=true)(hs:M3 n items)(hl:1<=items.length/\items.length<=8):cB items.length (iG cs items)=true:=by
 have h1:=lQ hc;simp only[cB,k_Bool_and_eq_true,aI,decide_eq_true_eq];refine⟨⟨fun c hcs=> ?_,by omega⟩,?_⟩
 ·obtain⟨c0,h2,h3⟩:=jL.1 hcs;unfold yY at h3;split at h3
  ·rename_i hp;obtain rfl:=k_Option_some_inj h3;obtain⟨a1,a2⟩:=CL hp.1;obtain⟨b1,b2⟩:=CL hp.2;have h4:=h1.2.2.2 c0 h2;simp only[MI,k_Bool_and_eq_true,decide_eq_true_eq];refine⟨⟨by omega,by omega⟩,?_⟩;rcases oF (place items c0.a).toNat (place items c0.b).toNat with h|h|h
   ·omega
   ·rw[h]at a2;omega
   ·have:=dN.1 hs.2 _ _ b1 a1 h;have e1:=aV a1;have e2:=aV b1;rw[aB a1]at e1;rw[aB b1]at e2;rw[k_Option_some_inj e1,k_Option_some_inj e2]at this;omega
  ·cases h3
 ·have:=jK (yY items) cs;unfold iG;omega
def aeL (hc:eF n cs=true)(hs:M3 n items)(hl:1<=items.length/\items.length<=8):eF items.length (iG cs items)=true:=by
 obtain⟨h1,h2⟩:=iU.1 hc;have h3:=ay6 h1 hs hl
 have hat:∀i<items.length,(at1 items i).toNat<n:=fun i hi=>by
  have:=hs.1 _ (aA (aV hi));omega
 refine iU.2 ⟨h3,fun c hcs hsame hr=> ?_⟩
 have key:∀i k,i<items.length->Reach items.length (mZ items.length (iG cs items)) i k->Reach n (mZ n cs) (at1 items i).toNat (at1 items k).toNat:=by
  intro i k hi hr
  induction hr with
  |refl=>exact .refl _
  | @step a b _ ha hb h ih=>
   refine .step ih (hat a ha) (hat b hb) ?_;rw[(kX _ (tV h3)).2]at h;obtain⟨c,hc1,hc2,hc3⟩:=h;obtain⟨c0,g1,g2⟩:=jL.1 hc1;unfold yY at g2;split at g2
   ·rename_i hp;obtain rfl:=k_Option_some_inj g2;simp only at hc2 hc3;obtain⟨a1,a2⟩:=CL hp.1;obtain⟨b1,b2⟩:=CL hp.2;have hc0:=tV h1 c0 g1;rw[(kX _ (tV h1)).2];refine⟨c0,g1,hc2,?_⟩;rcases hc3 with⟨e1,e2⟩|⟨e1,e2⟩
    ·left;have ea:(place items c0.a).toNat=a:=by omega
     have eb:(place items c0.b).toNat=b:=by omega
     rw[ea]at a2;rw[eb]at b2;omega
    ·right;have ea:(place items c0.a).toNat=b:=by omega
     have eb:(place items c0.b).toNat=a:=by omega
     rw[ea]at a2;rw[eb]at b2;omega
   ·cases g2
 obtain⟨c0,g1,g2⟩:=jL.1 hcs;unfold yY at g2;split at g2
 ·rename_i hp;obtain rfl:=k_Option_some_inj g2;simp only at hsame hr;obtain⟨a1,a2⟩:=CL hp.1;obtain⟨b1,b2⟩:=CL hp.2;have:=key _ _ a1 hr;rw[a2,b2]at this;exact h2 c0 g1 hsame this
 ·cases g2
end Go.Pl
end
section
namespace Go
def lV:= @List.nodup_append
def dJ:= @List.take_length
def rX:= @List.take_sublist
end Go
end
section
namespace Go.Pl
open Go.Dv
def GA (n:Int)(l:L1):Bool:=l.all (fun x=>inR x 0 (n-1))&&decide l.Nodup&&inR n 1 8&&decide ((l.length:Int)=n)
def at7 (n:Int)(l:L1)(i s:Nat):Prop:=(0<i->n<=8)/\s<256/\(∀x∈l.take i,0<=x/\x<n)/\(l.take i).Nodup/\∀x<8,s.testBit x=decide ((x:Int)∈l.take i)
def auB (n:Int)(l:L1):at7 n l 0 0:=⟨by omega,by omega,by simp,by simp,fun x _=>by simp⟩
variable {l:L1}{i:Nat}
def XJ (h:i<l.length):l.take (i+1)=l.take i++[at1 l i]:=dX (aV h)
def ad6 {x:Int}:(l++[x]).Nodup↔l.Nodup/\x∉l:=by
 rw[lV];constructor
 ·rintro⟨h1,_,h2⟩;exact⟨h1,fun h=>h2 x h x (by simp) rfl⟩
 ·rintro⟨h1,h2⟩;refine⟨h1,by simp,fun a ha b hb=> ?_⟩;rw[k_List_mem_singleton.1 hb];rintro rfl;exact h2 ha
def aeD {n:Int}{s:Nat}(h:at7 n l i s)(hi:i<l.length)(hb:(at1 l i<0\/n<=at1 l i)\/8<n\/s.testBit (at1 l i).toNat=true):GA n l=false:=by
 rw[jR];intro ho;simp only[GA,k_Bool_and_eq_true,aI,decide_eq_true_eq]at ho;obtain⟨⟨⟨h1,h2⟩,h3⟩,h4⟩:=ho;have hx:=h1 _ (aA (aV hi));rcases hb with hb|hb|hb
 ·omega
 ·omega
 ·obtain⟨_,_,_,_,g⟩:=h;rw[g (at1 l i).toNat (by omega),decide_eq_true_eq,show(((at1 l i).toNat:Nat):Int)=at1 l i by omega]at hb;have h5:(l.take (i+1)).Nodup:=List.Nodup.sublist (rX _ _) h2;rw[XJ hi]at h5;exact(ad6.1 h5).2 hb
def auA {n:Int}{s:Nat}(h:at7 n l i s)(hi:i<l.length)(hx:0<=at1 l i/\at1 l i<n)(hn:n<=8)(hs:s.testBit (at1 l i).toNat=false):at7 n l (i+1) (s|||2^(at1 l i).toNat):=by
 obtain⟨g1,g2,g3,g4,g5⟩:=h;have hpow:2^(at1 l i).toNat<2^8:=Nat.pow_lt_pow_right (by omega) (by omega);refine⟨fun _=>hn,Nat.or_lt_two_pow (n:=8) g2 hpow,fun x hxm=> ?_,?_,fun x hx8=> ?_⟩
 ·rw[XJ hi]at hxm;rcases k_List_mem_append.1 hxm with h|h
  ·exact g3 x h
  ·rw[k_List_mem_singleton.1 h];exact hx
 ·rw[XJ hi,ad6];refine⟨g4,fun hm=> ?_⟩;rw[g5 _ (by omega),decide_eq_false_iff_not]at hs;apply hs;rw[show(((at1 l i).toNat:Nat):Int)=at1 l i by omega];exact hm
 ·rw[Nat.testBit_or,Nat.testBit_two_pow,g5 x hx8,XJ hi,bH,bI,decide_eq_true_eq,decide_eq_true_eq,decide_eq_true_eq,k_List_mem_append,k_List_mem_singleton];refine or_congr_right ⟨fun h=>by omega,fun h=>by omega⟩
def ayY {n:Int}{s:Nat}(h:at7 n l l.length s):GA n l=(inR n 1 8&&decide ((l.length:Int)=n)):=by
 obtain⟨g1,g2,g3,g4,g5⟩:=h;rw[dJ]at g3 g4
 have h1:l.all (fun x=>inR x 0 (n-1))=true:=by
  rw[aI];intro x hx;have:=g3 x hx;simp;omega
 have h2:decide l.Nodup=true:=by simpa using g4
 rw[GA,h1,h2,eX,eX]
def yP (m:L2)(p x:Int)(k:Nat)(l:L1):L1:=if at1 l k<0/\((k:Int)=p\/at2 m p.toNat k>0)then l.set k x else l
def pivOne (m:L2)(order:L1)(i:Nat)(l:L1):L1:=if 0<=at1 l (at1 order i).toNat then l else loopN m.length l (yP m (at1 order i) i)
def abR (m:L2)(order:L1):L1:=loopN order.length (List.replicate m.length (-1)) (pivOne m order)
def kI (m:L2)(order:L1):L1:=canon (abR m order)
def rot (n s:Nat):L1:=(List.range n).map fun i=>(((s+i) % n:Nat):Int)
def xK (m:L2)(s:Nat)(b:L1×Int):L1×Int:=if b.2<0\/dL m (kI m (rot m.length s))<b.2 then(kI m (rot m.length s),dL m (kI m (rot m.length s)))else b
def kZ (m:L2):L1×Int:=loopN m.length ([], -1) (xK m)
def Y3:∀(l:L1) (s:L1×L1),(l.foldl jE s).1.length=s.1.length+l.length
 |[],s=>by simp
 |x::l,s=>by
  have h:(jE s x).1.length=s.1.length+1:=by unfold jE;split<;>simp
  rw[k_List_foldl_cons,Y3 l,h,aR];omega
def oV (l:L1):(canon l).length=l.length:=by simp[canon,Y3]
def am0 (m:L2)(p x:Int)(k:Nat)(l:L1):(yP m p x k l).length=l.length:=by unfold yP;split<;>simp
variable {n:Nat}
def zH {f:Nat->L1->L1}(h:∀k l,(f k l).length=l.length):(loopN n l f).length=l.length:=loopN_inv (fun _ (x:L1)=>x.length=l.length) rfl fun i x _ hx=>by rw[h,hx]
def apQ (m:L2)(o:L1)(i:Nat)(l:L1):(pivOne m o i l).length=l.length:=by
 unfold pivOne;split
 ·rfl
 ·exact zH (am0 m _ _)
def TR (m:L2)(o:L1):(kI m o).length=m.length:=by
 unfold kI abR;rw[oV,zH (apQ m o)];simp
def WH (h:GA n l=true):l.length=n/\1<=n/\n<=8/\l.Nodup/\∀i<l.length,0<=at1 l i/\at1 l i<n:=by
 simp only[GA,k_Bool_and_eq_true,aI,decide_eq_true_eq]at h;obtain⟨⟨⟨h1,h2⟩,h3⟩,h4⟩:=h;refine⟨by omega,by omega,by omega,h2,fun i hi=> ?_⟩;have:=h1 _ (aA (aV hi));omega
def arH {s:Nat}(hn:1<=n/\n<=8)(hs:s<n):GA n (rot n s)=true:=by
 have hb:∀n'≤8,∀s'<n',GA (n':Nat) (rot n' s')=true:=by decide
 exact hb n hn.2 s hs
def BF (l:L1):Int:=loopN l.length (-1) fun i t=>max t (at1 l i)
def xX (l:L1)(x y:Int):Bool:=fQ l&&inR x 0 ((l.length:Int)-1)&&inR y 0 (BF l+1)
def rE (l:L1)(x y:Int):L1:=if xX l x y=true then canon (l.set x.toNat y)else l
def vJ (m:L2)(l:L1):Int:=if bP m=true/\fQ l=true/\l.length=m.length then dL m l else -1
def J3 (m:L2)(l:L1)(x y:Int):Int:=if xX l x y=true/\0<=vJ m l then vJ m l-vJ m (rE l x y)else 0
def keepP (cs:List Con)(l:L1):Bool:=cs.all (xE l)&&fQ l
def xJ (m:L2)(cs:List Con)(l:L1)(i k:Nat)(b:Mov):Mov:=if xX l i k=true/\J3 m l i k>b.gain/\keepP cs (rE l i k)=true then⟨i,k,J3 m l i k⟩else b
def ab9 (m:L2)(cs:List Con)(l:L1)(i:Nat)(b:Mov):Mov:=loopN (l.length+1) b (xJ m cs l i)
def aj7 (m:L2)(cs:List Con)(l:L1):Bool:=decide (0<=vJ m l)&&keepP cs l
def mG (m:L2)(cs:List Con)(l:L1):Mov:=if aj7 m cs l=true then loopN l.length ⟨0,0,0⟩ (ab9 m cs l)else⟨0,0,0⟩
def qY (m:L2)(cs:List Con):Nat->L1->L1
 |0,l=>l
 |f+1,l=>if 0<(mG m cs l).gain then qY m cs f (rE l (mG m cs l).item (mG m cs l).block)else l
def P9 (l:L1)(x y:Int):(rE l x y).length=l.length:=by unfold rE;split;(rw[oV];simp);rfl
def anU (h:fQ l=true): -1<=BF l/\BF l<=8:=by
 have h1:=isPart_iff.1 h;have key:∀j≤l.length, -1<=loopN j (-1) (fun i t=>max t (at1 l i)):=fun j _=>loopN_inv (fun _ (t:Int)=> -1<=t) (by omega) fun i t _ ht=>by omega
 refine⟨key _ (k_Nat_le_refl _),?_⟩
 have h2:∀i<l.length,at1 l i<=i:=by
  intro i hi
  induction i using Nat.strongRecOn with
  |_ i ih=>
   rcases wB (i:Int) (at1 l i)with hlt|hle
   ·-- more smaller labels than places
    exfalso;obtain⟨j,hj,e⟩:=(h1.1 i hi).2 i (by omega) hlt;have:=ih j hj (by omega);omega
   ·exact hle
 refine loopN_inv (n:=l.length) (fun _ (t:Int)=>t<=8) (by omega) fun i t hi ht=> ?_;have:=h2 i hi;omega
def AO (m:L2)(l:L1): -1<=vJ m l/\vJ m l<=1000000:=by
 unfold vJ;split
 ·rename_i h;have h0:=kG h.1 l;have h8:=isPart_len h.2.1;refine⟨by omega,?_⟩
  have row:∀(i:Nat) (s:Int),i<l.length->yJ m l i s<=s+1000*i:=fun i s _=>by
   have:=loopN_inv (n:=i) (s:=s) (f:=fun k s=>s+sG m l i k) (fun k (t:Int)=>t<=s+1000*k) (by omega) (fun k t _ ht=>by
    have:=iH h.1 i k;simp only[sG];split
    ·omega
    ·split<;>omega)
   exact this
  have key:=loopN_inv (n:=l.length) (s:=0) (f:=yJ m l) (fun i (s:Int)=>s<=8000*i) (by omega) (fun i s hi hs=>by have:=row i s hi;omega);unfold dL;omega
 ·omega
def ak6 (m:L2)(l:L1)(x y:Int): -2000000<=J3 m l x y/\J3 m l x y<=2000000:=by
 have h1:=AO m l;have h2:=AO m (rE l x y);unfold J3;split<;>omega
def alW (x:Int)(s:L1)(n:Nat):(uB x s n<0->∀j<n,at1 s j≠x)/\(0<=uB x s n->uB x s n<n/\at1 s (uB x s n).toNat=x):=by
 induction n with
 |zero=>exact⟨fun _ j hj=>by omega,fun h=>by simp[uB,loopN_zero]at h⟩
 |succ n ih=>
  have e:uB x s (n+1)=if at1 s n=x then(n:Int)else uB x s n:=by rw[uB,aL];rfl
  rw[e];split
  ·rename_i h;exact⟨fun h2=>by omega,fun _=>⟨by omega,by simpa using h⟩⟩
  ·rename_i h;refine⟨fun h2 j hj=> ?_,fun h2=> ?_⟩
   ·by_cases hjn:j=n
    ·subst hjn;exact h
    ·exact ih.1 h2 j (by omega)
   ·have:=ih.2 h2;exact⟨by omega,this.2⟩
structure az5 (l:L1) (i:Nat) (s:L1×L1):Prop where
 len:s.1.length=i
 at_:∀j<i,0<=at1 s.1 j/\at1 s.1 j<s.2.length/\at1 s.2 (at1 s.1 j).toNat=at1 l j
 nd:∀a b:Nat,a<s.2.length->b<s.2.length->at1 s.2 a=at1 s.2 b->a=b
 ex:∀v:Int,0<=v->v<s.2.length->∃j<i,at1 s.1 j=v
 rg:RG s.1
def az5.step {l:L1}{i:Nat}{s:L1×L1}(h:az5 l i s)(hi:i<l.length):az5 l (i+1) (jE s (at1 l i)):=by
 have hL:=alW (at1 l i) s.2 s.2.length;unfold jE;have hsn:∀(x:Int) (j:Nat),j<i->at1 (s.1++[x]) j=at1 s.1 j:=fun x j hj=>by rw[kY,if_pos (by rw[h.len];exact hj)]
 have hsi:∀x:Int,at1 (s.1++[x]) i=x:=fun x=>by rw[kY,if_neg (by rw[h.len];omega),if_pos h.len.symm]
 split
 ·rename_i hneg;have hno:=hL.1 hneg;have hq:∀j<s.2.length,at1 (s.2++[at1 l i]) j=at1 s.2 j:=fun j hj=>by rw[kY,if_pos hj]
  have hqn:at1 (s.2++[at1 l i]) s.2.length=at1 l i:=by rw[kY,if_neg (by omega),if_pos rfl]
  refine⟨by simp[h.len],fun j hj=> ?_,fun a b ha hb e=> ?_,fun v h1 h2=> ?_,?_⟩
  ·simp only[aO,dZ];by_cases hji:j=i
   ·subst hji;rw[hsi];exact⟨by omega,by omega,by simpa using hqn⟩
   ·obtain⟨g1,g2,g3⟩:=h.at_ j (by omega);rw[hsn _ j (by omega)];exact⟨g1,by omega,by rw[hq _ (by omega)];exact g3⟩
  ·simp only[aO,dZ]at ha hb;by_cases ha2:a=s.2.length
   ·by_cases hb2:b=s.2.length
    ·omega
    ·rw[ha2,hqn,hq b (by omega)]at e;exact absurd e.symm (hno b (by omega))
   ·by_cases hb2:b=s.2.length
    ·rw[hb2,hqn,hq a (by omega)]at e;exact absurd e (hno a (by omega))
    ·rw[hq a (by omega),hq b (by omega)]at e;exact h.nd a b (by omega) (by omega) e
  ·simp only[aO,dZ]at h2;by_cases hv:v=s.2.length
   ·exact⟨i,by omega,by rw[hsi,hv]⟩
   ·obtain⟨j,hj,e⟩:=h.ex v h1 (by omega);exact⟨j,by omega,by rw[hsn _ j hj,e]⟩
  ·have:=UG (nx:=s.2.length) h.rg (fun v h1 h2=>by obtain⟨j,hj,e⟩:=h.ex v h1 h2;exact⟨j,by rw[h.len];exact hj,e⟩) (k_Nat_le_refl _);exact this
 ·rename_i hneg;obtain⟨hlt,hat⟩:=hL.2 (by omega);refine⟨by simp[h.len],fun j hj=> ?_,h.nd,fun v h1 h2=> ?_,?_⟩
  ·by_cases hji:j=i
   ·subst hji;rw[hsi];exact⟨by omega,hlt,hat⟩
   ·rw[hsn _ j (by omega)];exact h.at_ j (by omega)
  ·obtain⟨j,hj,e⟩:=h.ex v h1 h2;exact⟨j,by omega,by rw[hsn _ j hj,e]⟩
  ·have hn:uB (at1 l i) s.2 s.2.length=((uB (at1 l i) s.2 s.2.length).toNat:Int):=by omega
   rw[hn];exact UG (nx:=s.2.length) h.rg (fun v h1 h2=>by obtain⟨j,hj,e⟩:=h.ex v h1 h2;exact⟨j,by rw[h.len];exact hj,e⟩)
def aFJ (l:L1):∀i≤l.length,az5 l i ((l.take i).foldl jE ([],[])):=by
 intro i hi
 induction i with
 |zero=>exact⟨rfl,fun j hj=>by omega,fun a b ha=>by simp at ha,fun v h1 h2=>by simp at h2;omega,an2⟩
 |succ i ih=>rw[fA jE ([],[]) (aV)];exact(ih (by omega)).step (by omega)
def JH (l:L1):RG (canon l):=by
 have:=(aFJ l l.length (k_Nat_le_refl _)).rg
 rwa [dJ]at this
def afX (l:L1)(i k:Nat)(hi:i<l.length:=by omega)(hk:k<l.length:=by omega):at1 (canon l) i=at1 (canon l) k↔at1 l i=at1 l k:=by
 have h:=aFJ l l.length (k_Nat_le_refl _);rw[dJ]at h;have h1:=h.at_ i hi;have h2:=h.at_ k hk;show at1 (l.foldl jE ([],[])).1 i=at1 (l.foldl jE ([],[])).1 k↔_;constructor
 ·intro e;rw[←h1.2.2,←h2.2.2,e]
 ·intro e;rw[←h1.2.2,←h2.2.2]at e;have:=h.nd _ _ (by omega) (by omega) e;omega
def aj8 {a b:L1}(hl:a.length=b.length)(h:∀i k,i<a.length->k<a.length->(at1 a i=at1 a k↔at1 b i=at1 b k)):canon a=canon b:=by
 have h1:=oV a;have h2:=oV b;refine RG.unique (by omega) (JH a) (JH b) fun i k hi hk=> ?_;rw[afX a i k,afX b i k];exact h i k (by omega) (by omega)
def avB (h:RG l):∀i<l.length,at1 l i<=i:=by
 intro i hi
 induction i using Nat.strongRecOn with
 |_ i ih=>
  rcases wB (i:Int) (at1 l i)with hlt|hle
  ·exfalso;obtain⟨j,hj,e⟩:=(h i hi).2 i (by omega) hlt;have:=ih j hj (by omega);omega
  ·exact hle
def lK (s:L2)(r:List Con):L1:=if keepP r (kZ s).1=true then(kZ s).1 else eB s.length r
def partOf (m:L2)(cs:List Con)(items:L1):L1:=
 if 6<items.length then qY (kF m items) (iG cs items) 100 (lK (kF m items) (iG cs items))else(ZX (kF m items) (iG cs items)).best
def aa7 (items l:L1)(i:Int)(k:Nat)(L:L1):L1:=L.set (at1 items k).toNat (i*8+at1 l k)
def EX (m:L2)(cs:List Con)(bs:L2)(i:Nat)(L:L1):L1:=loopN (gat bs i).length L (aa7 (gat bs i) (partOf m cs (gat bs i)) i)
def afY (m:L2)(cs:List Con)(bs:L2):L1:=loopN bs.length (List.replicate m.length 0) (EX m cs bs)
def nN (m:L2)(cs:List Con):L1:=canon (afY m cs (blocksP (dH m cs)))
def nE (m:L2)(cs:List Con):L1:=if eF m.length cs=true then nN m cs else[]
def agJ (m:L2)(cs:List Con):∀(f:Nat) (l:L1),(qY m cs f l).length=l.length
 |0,l=>rfl
 |f+1,l=>by
  rw[qY];split
  ·rw[agJ m cs f,P9]
  ·rfl
def ax7 (h:RG l)(x y:Int):RG (rE l x y):=by
 unfold rE;split
 ·exact JH _
 ·exact h
def alE (m:L2)(cs:List Con):∀(f:Nat) (l:L1),RG l->RG (qY m cs f l)
 |0,l,h=>h
 |f+1,l,h=>by
  rw[qY];split
  ·exact alE m cs f _ (ax7 h _ _)
  ·exact h
variable {m:L2}
def RY (hm:bP m=true):(kZ m).1.length=m.length/\RG (kZ m).1/\0<=(kZ m).2:=by
 have hml:=dK hm
 have key:∀j≤m.length,1<=j->(loopN j ([], -1) (xK m)).1.length=m.length/\RG (loopN j ([], -1) (xK m)).1/\0<=(loopN j ([], -1) (xK m)).2:=by
  intro j hj h1
  induction j with
  |zero=>omega
  |succ j ih=>
   rw[aL];have hp:=kG hm (kI m (rot m.length j));have hl:=TR m (rot m.length j);unfold xK;split
   ·exact⟨hl,JH _,hp⟩
   ·rename_i h;by_cases hj0:j=0
    ·subst hj0;simp[loopN_zero]at h
    ·exact ih (by omega) (by omega)
 exact key m.length (k_Nat_le_refl _) hml.1
variable {r:List Con}
def alI (h:fQ l=true):keepP r l=mY r l:=by simp[keepP,mY,h]
variable {s:L2}
def UA (hs:bP s=true)(hr:cB s.length r=true):(lK s r).length=s.length/\RG (lK s r):=by
 have h1:=RY hs;have h2:=nL hr;unfold lK;split
 ·exact⟨h1.1,h1.2.1⟩
 ·exact⟨h2.1,h2.2.1⟩
structure Part (m:L2) (cs:List Con) (items:L1):Prop where
 mat:bP (kF m items)=true
 len:(kF m items).length=items.length
 con:eF items.length (iG cs items)=true
 are:cB items.length (iG cs items)=true
variable {cs:List Con}{items:L1}
def ai0 (hm:bP m=true)(hc:eF m.length cs=true)(hs:M3 m.length items)(h1:1<=items.length)(h8:items.length<=m.length):Part m cs items:=by
 have hml:=dK hm;have h3:=aeL hc hs ⟨h1,by omega⟩;exact⟨auT hm ⟨h1,by omega⟩ hs.2,by simp[kF],h3,(iU.1 h3).1⟩
def ag3 (h:Part m cs items):(partOf m cs items).length=items.length/\RG (partOf m cs items):=by
 unfold partOf;split
 ·have h2:=UA h.mat (r:=iG cs items) (by rw[h.len];exact h.are);refine⟨by rw[agJ,h2.1,h.len],alE _ _ _ _ h2.2⟩
 ·rw[XB h.mat (by rw[h.len];exact h.are)];have:=az9 h.mat (cs:=iG cs items) (by rw[h.len];exact h.con);exact⟨by rw[this.2.2,h.len],this.2.1⟩
def O5 (m:L2)(cs:List Con)(bs:L2)(i:Nat)(L:L1):(EX m cs bs i L).length=L.length:=zH fun k l=>by simp[aa7]
def XY (m:L2)(cs:List Con)(bs:L2):(afY m cs bs).length=m.length:=by rw[afY,zH (O5 m cs bs)];simp
def akC {w:L1}(n:Nat)(h:∀i<n,sF l w i=true):wO l w n<=1000*tT w n:=by
 induction n with
 |zero=>simp[wO,tT,loopN]
 |succ n ih=>
  have h1:=ih fun i hi=>h i (by omega);have h2:=h n (by omega);simp only[sF,k_Bool_and_eq_true,decide_eq_true_eq]at h2;have h3:at1 l n*at1 w n<=1000*at1 w n:=lD h2.1.2 h2.2.1;have e1:wO l w (n+1)=wO l w n+at1 l n*at1 w n:=aL _ _ _;have e2:tT w (n+1)=tT w n+at1 w n:=aL _ _ _;rw[e1,e2];omega
def ah5 (l w:L1):0<=oI l w/\oI l w<=1000:=by
 unfold oI;split
 ·next h=>
  have h1:∀i<l.length,sF l w i=true:=fun i hi=>aI.1 h.2 i (aZ.2 hi);have a:=BJ l.length h1;have b:=BI l.length h1;have c:=akC l.length h1;split
  ·omega
  ·rename_i hne;rw[nX a.1];refine⟨Int.ediv_nonneg a.1 b.1,?_⟩;exact Int.ediv_le_of_le_mul (by omega) c
 ·omega
def aeG (s:Sco)(f:L1):0<=lW s f/\lW s f<=1000:=by
 unfold lW;split
 ·exact ah5 _ _
 ·omega
def aa6 (rs:List (List Tst))(s:Sco)(f:L1): -1000<=iT rs s f/\iT rs s f<=1000:=by
 unfold iT;split
 ·next h=>
  have h1:=aeG s f;have h2:=h.2.1;simp only[lM,k_Bool_and_eq_true,inR,decide_eq_true_eq]at h2;have h3:=h2.2;split<;>omega
 ·omega
def RS (l:List Rec)(rs:List (List Tst))(s:Sco)(i k:Nat):lN l rs s i k=lN l rs s k i:=by
 unfold lN;rw[Nat.min_comm,Nat.max_comm];by_cases h:i=k
 ·simp[h]
 ·rw[if_neg h,if_neg (k_Ne_symm h)]
variable {k:Nat}
def UD (l:List Rec)(rs:List (List Tst))(s:Sco)(hi:i<l.length)(hk:k<l.length):at2 (weights l rs s) i k=lN l rs s i k:=by
 simp[at2,weights,xC,hi,hk]
def JC {l:List Rec}(rs:List (List Tst))(s:Sco)(h:1<=l.length/\l.length<=8):bP (weights l rs s)=true:=by
 have hl:(weights l rs s).length=l.length:=by simp[weights]
 simp only[bP,k_Bool_and_eq_true,aI,aZ,decide_eq_true_eq,hl];refine⟨⟨fun r hr=> ?_,fun i hi k hk=> ?_⟩,by first|omega|(simp;omega)⟩
 ·simp only[weights,dF]at hr;obtain⟨i,_,rfl⟩:=hr;simp[xC]
 ·simp only[GG,k_Bool_and_eq_true,inR,decide_eq_true_eq,bI];rw[UD l rs s hi hk,UD l rs s hk hi];refine⟨⟨?_,RS l rs s i k⟩,?_⟩
  ·unfold lN;split
   ·omega
   ·exact aa6 _ _ _
  ·by_cases h:i=k
   ·right;simp[lN,h]
   ·left;exact h
def avG {l:List Ver}(v:Ver)(h:l.length<=8):(yS l v).length<=8:=by
 unfold yS;split
 ·next h2=>
  simp only[FD,k_Bool_and_eq_true,decide_eq_true_eq]at h2;have:=avF l v;simp only[aO,dD,qA,aR,jA];omega
 ·exact h
def apA {α:Type}{P:α->Bool}{l:List α}{c:α}(h:P c=false):ix P (l++[c])=ix P l:=by
 unfold ix;rw[List.findIdx?_append];cases l.findIdx? P<;>simp[h]
def agM (x:Int){s:L1}(hs:s.Nodup):∀n,n<=s.length->uB x s n=ix (fun y=>decide (x=y)) (s.take n)
 |0,_=>by simp[uB,loopN,ix]
 |n+1,h=>by
  have ih:=agM x hs n (by omega);have e:uB x s (n+1)=if at1 s n=x then(n:Int)else uB x s n:=aL _ _ _
  obtain⟨c,hc⟩:=aQ (l:=s) (i:=n);have hca:at1 s n=c:=by have:=aV (l:=s) (i:=n);rw[hc]at this;exact(k_Option_some_inj this).symm
  rw[e,hca,dX hc];by_cases hx:c=x
  ·rw[if_pos hx];have hl:(s.take n).length=n:=by rw[dD];omega
   have h1:(s.take n++[c])[n]?=some c:=by rw[aY (by omega),hl];simp
   have hno:((s.take n++[c]).take n).any (fun y=>decide (x=y))=false:=by
    rw[List.take_append_of_le_length (by simp;omega)];rw[fD];intro y hy;simp only[List.take_take,Nat.min_self]at hy;have hnd:(s.take (n+1)).Nodup:=hs.sublist (rX _ _);rw[dX hc,lV]at hnd;have:=hnd.2.2 y hy c (by simp);simp;omega
   exact(DK h1 hno (by simp[hx])).symm
  ·rw[if_neg hx,ih,apA (by simp;omega)]
def WL (m:L2)(i k:Nat):Bool:=inR (at2 m i k) (-1000) 1000&&decide (at2 m k i=at2 m i k)
def EJ (m:L2)(i:Nat):Bool:=decide ((gat m i).length=m.length)&&decide (at2 m i i=0)&&(List.range i).all (WL m i)
def YM (m:L2):bP m=((List.range m.length).all (EJ m)&&inR m.length 1 8):=by
 rw[bH];simp only[bP,EJ,WL,GG,k_Bool_and_eq_true,aI,aZ,decide_eq_true_eq,bI];constructor
 ·rintro⟨⟨h1,h2⟩,h3⟩;refine⟨fun i hi=>⟨⟨?_,?_⟩,fun k hk=> ?_⟩,h3⟩
  ·obtain⟨r,hr⟩:=aQ hi;rw[zX hr];exact h1 r (aA hr)
  ·have:=(h2 i hi i hi).2;simpa using this
  ·have a:=(h2 i hi k (by omega)).1;exact⟨a.1,a.2.symm⟩
 ·rintro⟨h,h3⟩;refine⟨⟨fun r hr=> ?_,fun i hi k hk=> ?_⟩,h3⟩
  ·obtain⟨i,hi⟩:=dE hr;have:=(h i (dM hi)).1.1
   rwa [zX hi]at this
  ·rcases oF i k with hlt|rfl|hlt
   ·have a:=(h k hk).2 i hlt;exact⟨⟨by rw[a.2];exact a.1,a.2⟩,.inl (by omega)⟩
   ·have a:=(h i hi).1.2;exact⟨⟨by omega,rfl⟩,.inr a⟩
   ·have a:=(h i hi).2 k hlt;exact⟨⟨a.1,a.2.symm⟩,.inl (by omega)⟩
def amC (h:k<i)(hp:WL m i k=false):EJ m i=false:=by
 unfold EJ;rw[mR h hp,Bool.and_false]
def atJ (h1:(gat m i).length=m.length)(h2:at2 m i i=0)(h:(List.range i).all (WL m i)=true):EJ m i=true:=by
 unfold EJ;rw[h];simp[h1,h2]
def zeros (n:Nat):L2:=List.replicate n (List.replicate n 0)
def set2 (m:L2)(i k:Nat)(v:Int):L2:=m.set i ((gat m i).set k v)
def sq2 (n:Nat)(m:L2):Prop:=m.length=n/\∀r∈m,r.length=n
def pF (n:Nat):sq2 n (zeros n):=⟨by simp[zeros],fun r hr=>by obtain⟨_,rfl⟩:=nI.1 hr;simp⟩
def rZ (h:sq2 n m)(hi:i<n:=by omega):m[i]?=some (gat m i)/\(gat m i).length=n:=by
 obtain⟨r,hr⟩:=aQ (l:=m) (i:=i) (by rw[h.1];exact hi);rw[zX hr];exact⟨hr,h.2 r (aA hr)⟩
def abD (m:L2)(i k:Nat):at2 m i k=at1 (gat m i) k:=rfl
def LM (h:sq2 n m)(hi:i<n:=by omega)(hk:k<n:=by omega):(gat m i)[k]?=some (at2 m i k):=by
 rw[abD];exact aV (by rw[(rZ h hi).2];exact hk)
def wZ (h:sq2 n m)(hi:i<n)(v:Int):sq2 n (set2 m i k v):=by
 refine⟨by simp[set2,h.1],fun r hr=> ?_⟩;rcases jC hr with h1|rfl
 ·exact h.2 r h1
 ·simp[(rZ h hi).2]
def CZ (h:sq2 n m)(hi:i<n)(hk:k<n)(v:Int)(a b:Nat):at2 (set2 m i k v) a b=if a=i/\b=k then v else at2 m a b:=by
 rw[abD,set2,aq3 a (by rw[h.1];exact hi)];by_cases ha:i=a
 ·subst ha;rw[if_pos rfl,yI b (by rw[(rZ h hi).2];exact hk),abD];by_cases hb:k=b
  ·subst hb;simp
  ·rw[if_neg hb,if_neg (by omega)]
 ·rw[if_neg ha,if_neg (by omega),abD]
def JG (n a b:Nat):at2 (zeros n) a b=0:=by
 by_cases ha:a<n<;>by_cases hb:b<n<;>simp[at2,zeros,aC,ha,hb]
def ahE (h:sq2 n m)(hn:1<=n/\n<=8)(hr:∀a b,a<n->b<n-> -1000<=at2 m a b/\at2 m a b<=1000/\at2 m a b=at2 m b a)(hd:∀a<n,at2 m a a=0):bP m=true:=by
 rw[YM,h.1];simp only[EJ,WL,k_Bool_and_eq_true,aI,aZ,decide_eq_true_eq];refine⟨fun i hi=>⟨⟨?_,hd i hi⟩,fun k hk=> ?_⟩,by omega⟩
 ·rw[(rZ h hi).2,h.1]
 ·have:=hr i k hi (by omega);exact⟨⟨this.1,this.2.1⟩,this.2.2.symm⟩
def qP (m:L2)(c:Con):L2:=if c.same then set2 (set2 m c.a.toNat c.b.toNat 1) c.b.toNat c.a.toNat 1 else m
def OY (n:Nat)(l:List Con):L2:=l.foldl qP (zeros n)
def WO {c:Con}(h:sq2 n m)(hc:0<=c.a/\c.a<c.b/\c.b<(n:Int)):sq2 n (qP m c):=by
 unfold qP;split
 ·exact wZ (wZ h (by omega) 1) (by omega) 1
 ·exact h
def adH :∀(cs:List Con) (m:L2),sq2 n m->(∀c∈cs,0<=c.a/\c.a<c.b/\c.b<(n:Int))->sq2 n (cs.foldl qP m)/\∀a b,at2 (cs.foldl qP m) a b=if(cs.any fun c=>c.same&&(decide (c.a=a/\c.b=b)||decide (c.a=b/\c.b=a)))=true then 1 else at2 m a b
 |[],m,h,_=>⟨h,fun a b=>by simp⟩
 |c::cs,m,h,hc=>by
  have h0:=hc c (by simp);obtain⟨h1,h2⟩:=adH cs (qP m c) (WO h h0) fun d hd=>hc d (by simp[hd]);refine⟨h1,fun a b=> ?_⟩;rw[k_List_foldl_cons,h2,List.any_cons];by_cases hx:(cs.any fun c=>c.same&&(decide (c.a=a/\c.b=b)||decide (c.a=b/\c.b=a)))=true
  ·rw[if_pos hx,hx,Bool.or_true,if_pos rfl]
  ·have hx2:(cs.any fun c=>c.same&&(decide (c.a=a/\c.b=b)||decide (c.a=b/\c.b=a)))=false:=by simpa using hx
   rw[if_neg hx,hx2,Bool.or_false];unfold qP;cases hs:c.same with
   |false=>simp
   |true=>
    simp only[if_true,eX];rw[CZ (wZ h (by omega) 1) (by omega) (by omega),CZ h (by omega) (by omega)];by_cases h3:a=c.b.toNat/\b=c.a.toNat
    ·rw[if_pos h3,if_pos];simp only[bI,decide_eq_true_eq];omega
    ·rw[if_neg h3];by_cases h4:a=c.a.toNat/\b=c.b.toNat
     ·rw[if_pos h4,if_pos];simp only[bI,decide_eq_true_eq];omega
     ·rw[if_neg h4,if_neg];simp only[bI,decide_eq_true_eq];omega
def ad3 (hc:cB n cs=true):sq2 n (OY n cs)/\∀a b,(at2 (OY n cs) a b=0\/at2 (OY n cs) a b=1)/\(0<at2 (OY n cs) a b↔∃c∈cs,MC c a b):=by
 obtain⟨h1,h2⟩:=adH cs (zeros n) (pF n) (tV hc);refine⟨h1,fun a b=> ?_⟩;have h3:=h2 a b;rw[JG]at h3;rw[OY,h3]
 have h4:(cs.any fun c=>c.same&&(decide (c.a=a/\c.b=b)||decide (c.a=b/\c.b=a)))=true↔∃c∈cs,MC c a b:=by
  simp[cK,MC]
 rw[←h4];by_cases h:(cs.any fun c=>c.same&&(decide (c.a=a/\c.b=b)||decide (c.a=b/\c.b=a)))=true
 ·rw[if_pos h];exact⟨.inr rfl,fun _=>h,fun _=>by omega⟩
 ·rw[if_neg h];exact⟨.inl rfl,fun h2=>absurd h2 (by omega),fun h2=>absurd h2 h⟩
def ZP (hc:cB n cs=true):bP (OY n cs)=true:=by
 obtain⟨h1,h2⟩:=ad3 hc;have hn:=lQ hc
 have hs:∀a b,at2 (OY n cs) a b=at2 (OY n cs) b a:=by
  intro a b;have e1:=(h2 a b).2;have e2:=(h2 b a).2;have e3:(∃c∈cs,MC c a b)↔∃c∈cs,MC c b a:=⟨fun⟨c,h,h'⟩=>⟨c,h,TI h'⟩,fun⟨c,h,h'⟩=>⟨c,h,TI h'⟩⟩;rw[e3,←e2]at e1;have:=(h2 a b).1;have:=(h2 b a).1;omega
 refine ahE h1 (by omega) (fun a b _ _=> ?_) fun a ha=> ?_
 ·have:=(h2 a b).1;exact⟨by omega,by omega,hs a b⟩
 ·have e1:=(h2 a a).2;have e0:=(h2 a a).1;rcases e0 with e0|e0
  ·exact e0
  ·obtain⟨c,hm,_,hl⟩:=e1.1 (by omega);have:=tV hc c hm;omega
def apI (hc:cB n cs=true):oO (OY n cs)=eB n cs:=
 av7 hc (ZP hc) (ad3 hc).1.1 fun a b _ _=>((ad3 hc).2 a b).2
def yO (f:Nat->Nat->Bool)(i k:Nat)(m:L2):L2:=if f i k=true then set2 m i k 1 else m
def YS (n:Nat)(f:Nat->Nat->Bool)(i:Nat)(m:L2):L2:=loopN n m (yO f i)
def ones (n:Nat)(f:Nat->Nat->Bool):L2:=loopN n (zeros n) (YS n f)
variable {f:Nat->Nat->Bool}
def aeB (h:sq2 n m)(hi:i<n):sq2 n (yO f i k m):=by
 unfold yO;split
 ·exact wZ h hi 1
 ·exact h
variable {j:Nat}
def at6 (h:sq2 n m)(hi:i<n):sq2 n (loopN j m (yO f i)):=loopN_inv (fun _ m=>sq2 n m) h fun k m _ hm=>aeB hm hi
def arD (hj:j<=n):sq2 n (loopN j (zeros n) (YS n f)):=loopN_inv (fun _ m=>sq2 n m) (pF n) fun i m hi hm=>at6 hm (by omega)
def abP {a b:Nat}:at2 (ones n f) a b=if a<n/\b<n/\f a b=true then 1 else 0:=by
 have h:=loopN_inv (n:=n) (s:=zeros n) (f:=YS n f) (fun i m=>sq2 n m/\∀a b,at2 m a b=if a<i/\b<n/\f a b=true then 1 else 0) ⟨pF n,fun a b=>by rw[JG,if_neg (by omega)]⟩ fun i m hi ⟨h1,h2⟩=>by
  have h3:=loopN_inv (n:=n) (s:=m) (f:=yO f i) (fun k m'=>sq2 n m'/\∀a b,at2 m' a b=if(a<i/\b<n\/a=i/\b<k)/\f a b=true then 1 else 0) ⟨h1,fun a b=>by rw[h2];split<;>split<;>first|rfl|(exfalso;simp_all;done)|(exfalso;grind)⟩ fun k m' hk ⟨h4,h5⟩=>by
   refine⟨aeB h4 hi,fun a b=> ?_⟩;unfold yO;split
   ·next hf=>
    rw[CZ h4 hi hk,h5];by_cases hab:a=i/\b=k
    ·obtain⟨rfl,rfl⟩:=hab;simp[hf]
    ·rw[if_neg hab];split<;>split<;>first|rfl|(exfalso;grind)
   ·next hf=>
    rw[h5];split<;>split<;>first|rfl|(exfalso;grind)
  refine⟨h3.1,fun a b=> ?_⟩;rw[YS,h3.2];split<;>split<;>first|rfl|(exfalso;grind)
 exact h.2 a b
def BC (p q:L1)(i k:Nat):Bool:=decide (i≠k)&&(decide (at1 p i=at1 p k)||decide (at1 q i=at1 q k))
def OU (p q:L1):L2:=ones p.length (BC p q)
variable {p q:L1}
def ZH (hp:1<=p.length/\p.length<=8):bP (OU p q)=true:=by
 refine ahE (arD (k_Nat_le_refl _)) hp (fun a b ha hb=> ?_) fun a ha=> ?_
 ·have h1:BC p q a b=BC p q b a:=by
   unfold BC;rw[bH];simp only[k_Bool_and_eq_true,bI,decide_eq_true_eq];constructor<;>(rintro⟨h1,h2⟩;exact⟨by omega,by omega⟩)
  show -1000<=at2 (OU p q) a b/\at2 (OU p q) a b<=1000/\at2 (OU p q) a b=at2 (OU p q) b a;rw[OU,abP,abP,h1];refine⟨by split<;>omega,by split<;>omega,?_⟩;simp[ha,hb]
 ·show at2 (OU p q) a a=0;rw[OU,abP,if_neg];simp[BC]
def apB (hp:1<=p.length/\p.length<=8):oO (OU p q)=DL p q:=by
 refine av5 (ZH hp) (arD (k_Nat_le_refl _)).1 fun a b ha hb hne=> ?_;rw[OU,abP];simp only[BC,ha,hb,true_and,k_Bool_and_eq_true,bI,decide_eq_true_eq];split
 ·next h=>simp[h.2]
 ·next h=>simp;omega
def af2 (m:L2)(l:L1)(i k:Nat):sG m l i k=if at1 l i=at1 l k then max 0 (- at2 m i k)else max 0 (at2 m i k):=by
 unfold sG;split<;>split<;>(try split)<;>omega
variable {a b:List Con}
def adU (h:a.Perm b):keepP a=keepP b:=by
 funext l;unfold keepP;rw[h.all_eq]
def ajV (h:a.Perm b)(l:L1):mG m a l=mG m b l:=by
 have h1:=adU h;unfold mG aj7 ab9 xJ;rw[h1]
def adO (h:a.Perm b):∀(f:Nat) (l:L1),qY m a f l=qY m b f l
 |0,l=>rfl
 |f+1,l=>by rw[qY,qY,ajV h,adO h f]
def ai8 (h:a.Perm b)(ha:cB s.length a=true):lK s a=lK s b:=by
 unfold lK;rw[adU h,WN ha (by rw[←zN h];exact ha) fun c=>h.mem_iff]
def amY (h:a.Perm b)(hp:Part m a items):partOf m a items=partOf m b items:=by
 have hr:=ai3 h items;have ha:cB (kF m items).length (iG a items)=true:=by rw[hp.len];exact hp.are
 unfold partOf;rw[ai8 hr ha,adO hr,XB hp.mat ha,XB hp.mat (by rw[←zN hr];exact ha),ajU hr]
def ae5 (hm:bP m=true)(h:a.Perm b):nE m a=nE m b:=by
 unfold nE;rw[LZ h];split
 ·next hb=>
  have ha:eF m.length a=true:=by rw[LZ h];exact hb
  have hab:=(iU.1 hb).1
  have hsp:dH m a=dH m b:=by
   unfold dH;rw[zN h];split
   ·rw[WN (iU.1 ha).1 hab fun c=>h.mem_iff]
   ·rfl
  have hsc:=IM hm hab;unfold nN afY;rw[hsp];refine congrArg canon (wH fun i L hi=> ?_);have hsel:=PO (isPart_iff.1 hsc.2.1).1 hi;rw[hsc.2.2]at hsel;unfold EX;rw[amY h (ai0 hm ha hsel.1 hsel.2.1 hsel.2.2)]
 ·rfl
end Go.Pl
end
section
namespace Go
def jZ:= @List.length_pos_iff
def wF:= @UInt8.toNat_ofNat'
end Go
end
section
namespace Go.Pl
open Go.Dv
def PM (c:UInt8):UInt8:=if wL c=true then c else 32
def azZ {c:UInt8}{n:Nat}(hn:n<256)(h:c.toNat=n):c=UInt8.ofNat n:=by
 apply k_UInt8_toNat_inj.1;rw[h,wF];omega
def auR (c:UInt8):AQ c=if c.toNat=39 then[]else[PM c]:=by
 unfold AQ PM;by_cases h9:c.toNat=39
 ·have hw:wL c=false:=by unfold wL;rw[h9];decide
  rw[if_pos h9,if_neg (by rw[hw,h9];simp),if_neg (by omega)]
 ·rw[if_neg h9];by_cases hw:wL c=true
  ·rw[if_pos (.inl hw),if_pos hw]
  ·rw[if_neg hw];by_cases h2:c.toNat=32
   ·rw[if_pos (.inr h2),azZ (by omega) h2];rfl
   ·rw[if_neg (by rintro(h|h);exact hw h;exact h2 h),if_pos h9]
def azJ (s:Str):(s.filter fun c=> !decide (c=39)).map PM=xZ s:=by
 unfold xZ
 induction s with
 |nil=>rfl
 |cons c s ih=>
  rw[xR,←ih,auR,List.filter_cons];by_cases h:c=39
  ·subst h;simp
  ·have:¬c.toNat=39:=fun e=>h (azZ (n:=39) (by omega) e);simp[h,this]
def UN (o:Str)(c:UInt8):Str:=if c≠32\/(o≠[]/\o.getLast?≠some 32)then o++[c]else o
def ahK (o:Str):Str:=if o.getLast?=some 32 then o.dropLast else o
def aqQ (s:Str):∀i≤s.length,(s.take i).foldl UN []=loopN i [] (qQ s)++(if loopN i [] (qQ s)≠[]/\s.getD (i-1) 0=32 then[32]else[])/\(loopN i [] (qQ s)).getLast?≠some 32
 |0,_=>by simp[loopN]
 |i+1,h=>by
  obtain⟨h1,h2⟩:=aqQ s i (by omega);obtain⟨c,hc⟩:=aQ (l:=s) (i:=i);rw[fA UN [] hc,aL,nJ,WA hc];generalize loopN i [] (qQ s)=o at h1 h2|-
  rw[h1];have h32:∀x:UInt8,x.toNat=32↔x=32:=fun x=>⟨fun e=>azZ (n:=32) (by omega) e,fun e=>by subst e;rfl⟩;unfold qQ UN;rw[WA hc];generalize s.getD (i-1) 0=q;simp only[h32];by_cases hs:c=32
  ·subst hs;rw[if_pos rfl];refine⟨?_,h2⟩;by_cases ho:o=[]
   ·subst ho;simp
   ·by_cases hp:q=32
    ·simp[ho,hp]
    ·simp[ho,hp,h2]
  ·rw[if_neg hs,if_pos (.inl hs)];refine⟨?_,by simp[hs]⟩;have:(0<o.length↔o≠[]):=by rw[jZ]
   simp only[this,hs,and_false,if_false,dQ];split<;>simp
def Y7 (s:Str):C8 s=ahK (s.foldl UN []):=by
 obtain⟨h1,h2⟩:=aqQ s s.length (k_Nat_le_refl _);rw[dJ]at h1;unfold ahK C8;rw[h1];generalize loopN s.length [] (qQ s)=o at h2|-
 by_cases h:o≠[]/\s.getD (s.length-1) 0=32
 ·rw[if_pos h];simp
 ·rw[if_neg h,dQ,if_neg h2]
def LW (s:Str):List Str:=(acR 32 s).filter fun x=>decide (x≠[])
def rR (s:Str×Int)(c:UInt8):Str×Int:=(if aM c>0/\aM c≠s.2 then s.1++[UInt8.ofNat (48+aM c).toNat]else s.1,if 0<=aM c then aM c else s.2)
variable {o:Str}
def aGK (x:UInt8)(h:o≠[]):(if(o.take 4).length<4 then o.take 4++[x]else o.take 4)=(o++[x]).take 4:=by
 match o with
 |[a]=>rfl
 |[a,b]=>rfl
 |[a,b,c]=>rfl
 |a::b::c::d::t=>simp
def arO:∀(s o:Str) (p:Int),o≠[]->s.foldl vD (o.take 4,p)=((s.foldl rR (o,p)).1.take 4,(s.foldl rR (o,p)).2)
 |[],o,p,h=>rfl
 |c::s,o,p,h=>by
  have h4:o.take 4≠[]:=by cases o with
   |nil=>exact absurd rfl h
   |cons a t=>simp
  rw[k_List_foldl_cons,k_List_foldl_cons]
  have e:vD (o.take 4,p) c=((rR (o,p) c).1.take 4,(rR (o,p) c).2):=by
   unfold vD rR;rw[if_neg h4];simp only;congr 1;by_cases h1:aM c>0/\aM c≠p
   ·rw[if_pos h1,←aGK _ h];by_cases h2:(o.take 4).length<4
    ·rw[if_pos ⟨h1.1,h1.2,h2⟩,if_pos h2]
    ·rw[if_neg (fun hh=>h2 hh.2.2),if_neg h2]
   ·rw[if_neg (fun hh=>h1 ⟨hh.1,hh.2.1⟩),if_neg h1]
  have hne:(rR (o,p) c).1≠[]:=by
   unfold rR;simp only;split
   ·simp
   ·exact h
  rw[e];exact arO s _ _ hne
def auD (h:o≠[]):aa5 (o.take 4)=(o++[48,48,48]).take 4:=by
 match o with
 |[a]=>rfl
 |[a,b]=>rfl
 |[a,b,c]=>rfl
 |a::b::c::d::t=>simp[aa5]
def ap1 (c:UInt8)(s:Str)(h:(c::s).all (fun c=>decide (aM c≠ -2))=true):jD (c::s)=((s.foldl rR ([iL c],aM c)).1++[48,48,48]).take 4:=by
 unfold jD;rw[if_neg (by rw[h];simp),k_List_foldl_cons];have e:vD ([],0) c=(([iL c]:Str).take 4,aM c):=by simp[vD]
 rw[e,arO s _ _ (by simp),auD]
 have key:∀(s o:Str) (p:Int),o≠[]->(s.foldl rR (o,p)).1≠[]:=by
  intro s
  induction s with
  |nil=>exact fun o p h=>h
  |cons d s ih=>
   intro o p h;rw[k_List_foldl_cons];refine ih _ _ ?_;simp only;split
   ·simp
   ·exact h
 exact key s _ _ (by simp)
def ap2 {s:Str}(h:s.all (fun c=>decide (aM c≠ -2))=false):jD s=[]:=by
 unfold jD;rw[if_pos (.inr h)]
def aa9 (c:UInt8):aM c=if 97<=(iL c).toNat/\(iL c).toNat<=122 then codeOf (iL c).toNat else -2:=by
 unfold aM;split
 ·rfl
 ·next h=>
  unfold codeOf;repeat(first|rfl|omega|split)
def aAP (x y:Str)(tr:Bool):∀(s i j:Nat),i+j=s->ed x y tr i j=ed y x tr j i:=by
 intro s
 induction s using Nat.strongRecOn with
 |_ s ih=>
  intro i j h
  match i,j with
  |0,j=>rw[ed_zero,ed_zero']
  |i+1,0=>rw[ed_zero,ed_zero']
  |i+1,j+1=>
   have e1:=ih (i+j) (by omega) i j rfl;have e2:=ih (i+(j+1)) (by omega) i (j+1) rfl;have e3:=ih (i+1+j) (by omega) (i+1) j rfl;have e4:=ih (i-1+(j-1)) (by omega) (i-1) (j-1) rfl
   have hv:edV x y tr i j=edV y x tr j i:=by
    unfold edV;rw[e1,e2,e3];by_cases hc:chr x i=chr y j
    ·rw[if_pos hc,if_pos hc.symm]
    ·rw[if_neg hc,if_neg (fun e=>hc e.symm)];omega
   have hs:vK x y tr (i+1) (j+1)=vK y x tr (j+1) (i+1):=by
    unfold vK;rw[bH];simp only[k_Bool_and_eq_true,decide_eq_true_eq,nJ];have e5:i+1-2=i-1:=by omega
    have e6:j+1-2=j-1:=by omega
    rw[e5,e6];constructor
    ·rintro⟨⟨⟨⟨a,b⟩,c⟩,d⟩,e⟩;exact⟨⟨⟨⟨a,c⟩,b⟩,e.symm⟩,d.symm⟩
    ·rintro⟨⟨⟨⟨a,b⟩,c⟩,d⟩,e⟩;exact⟨⟨⟨⟨a,c⟩,b⟩,e.symm⟩,d.symm⟩
   rw[CV,CV,hv,hs,e4]
def akR (x y:Str):qK x y=qK y x:=by
 rw[X3,X3,aAP x y false _ _ _ rfl];have:FK x y=FK y x:=by unfold FK;rw[Bool.and_comm]
 rw[this]
def PI (x y:Str):pI x y=pI y x:=by
 have h1:∀a b:Str,wP a b=wP b a:=fun a b=>by unfold wP;rw[akR,Int.max_comm]
 unfold pI;rw[h1];by_cases h:normal x=[]\/normal y=[]
 ·rw[if_pos h,if_pos h.symm]
 ·rw[if_neg h,if_neg (fun e=>h e.symm)]
def DU:∀(a b:List Str),mcount a b=mcount b a
 |[],[]=>rfl
 |[],_::_=>by simp[mcount]
 |_::_,[]=>by simp[mcount]
 |a::x,b::y=>by
  rw[mcount,mcount];rcases EU a b with h|rfl|h
  ·rw[if_pos h,if_neg (by rw[CF h];simp),if_pos h,DU x (b::y)]
  ·rw[if_neg (by rw[jU];simp),if_neg (by rw[jU];simp),if_neg (by rw[jU];simp),if_neg (by rw[jU];simp),DU x y]
  ·rw[if_neg (by rw[CF h];simp),if_pos h,if_pos h,DU (a::x) y]
termination_by a b=>a.length+b.length
def RN (a b:List Str):tJ a b=tJ b a:=by
 have h1:AA a b=AA b a:=by
  rw[TF,TF,DU];have:vL a b=vL b a:=by unfold vL;rw[Bool.and_comm]
  rw[this,Int.add_comm (a.length:Int)]
 unfold tJ;rw[h1];by_cases h:a=[]\/b=[]
 ·rw[if_pos h,if_pos h.symm]
 ·rw[if_neg h,if_neg (fun e=>h e.symm)]
def O7:∀(a b:Str),shared a b=shared b a
 |[],[]=>rfl
 |[],_::_=>rfl
 |_::_,[]=>rfl
 |a::x,b::y=>by
  rw[shared,shared,O7 x y];by_cases h:a=b
  ·rw[if_pos h,if_pos h.symm]
  ·rw[if_neg h,if_neg (fun e=>h e.symm)]
def apP (x y:Str):rQ x y=rQ y x:=by
 unfold rQ IL;rw[O7 (digits y).reverse];generalize shared (digits x).reverse (digits y).reverse=n;generalize(digits x).length=a;generalize(digits y).length=b;repeat(first|rfl|omega|split)
def au7 (x y:Str):tL x y=tL y x:=by
 have h1:∀a b:Int,mP a b 10=mP b a 10:=fun a b=>by
  unfold mP;rw[Int.max_comm,Int.min_comm];have e:(inR b 0 9999=true/\inR a 0 9999=true/\inR 10 1 9999=true)↔(inR a 0 9999=true/\inR b 0 9999=true/\inR 10 1 9999=true):=⟨fun h=>⟨h.2.1,h.1,h.2.2⟩,fun h=>⟨h.2.1,h.1,h.2.2⟩⟩;simp only[e]
 unfold tL;rw[h1];by_cases h:0<iW x/\0<iW y
 ·rw[if_pos h,if_pos h.symm]
 ·rw[if_neg h,if_neg (fun e=>h e.symm)]
def aoS (a b:Rec):DC a b=DC b a:=by
 unfold DC;rw[PI (fld a 0),RN (tokens (fld a 0)),RN (lY (fld a 0)),PI (fld a 1),au7,apP]
end Go.Pl
end
section
namespace Go
def fZ:= @List.pairwise_append
end Go
end
section
namespace Go.Pl
open Go.Dv
def leS (x y:Str):decide (x<=y)= !ltL y x:=by
 unfold ltL;rw[Go.Proofs.bytesLess_eq];by_cases h:y<x
 ·have h2:¬x<=y:=by rw[←List.not_lt];simpa using h
  simp[h,h2]
 ·have h2:x<=y:=by rw[←List.not_lt];exact h
  simp[h,h2]
def acO {L:List Str}(hs:∀i j (hi:i<j) (hj:j<L.length),ltL (L[j]'hj) (L[i]'(by omega))=false):∀m≤L.length,Asc (Lib.compactUpTo L.toArray m)/\∀z,z∈Lib.compactUpTo L.toArray m↔z∈L.take m
 |0,_=>by simp[Lib.compactUpTo]
 |m+1,h=>by
  obtain⟨h1,h2⟩:=acO hs m (by omega);have hg:∀i (hi:i<L.length),L.toArray[i]! =L[i]:=fun i hi=>by simp[hi]
  have hx:L[m]?=some L[m]:=aB (by omega);rw[Lib.compactUpTo_succ,dX hx];by_cases hk:Lib.keeps L.toArray m=true
  ·rw[if_pos hk,hg m (by omega)];refine⟨fZ.2 ⟨h1,by simp,fun z hz y hy=> ?_⟩,fun z=>by rw[k_List_mem_append,h2,k_List_mem_append]⟩;obtain rfl:y=L[m]:=by simpa using hy
   have hz2:=(h2 z).1 hz;obtain⟨j,hj⟩:=dE hz2;have hjm:j<m:=by have:=dM hj;simp at this;omega
   rw[bA,if_pos hjm,aB (by omega)]at hj;obtain rfl:=k_Option_some_inj hj;simp only[Lib.keeps,decide_eq_true_eq]at hk
   have hne:L[m-1]≠L[m]:=by
    rcases hk with hk|hk
    ·omega
    ·rw[hg m (by omega),hg (m-1) (by omega)]at hk;exact fun e=>hk e.symm
   have hlast:ltL L[m-1] L[m]=true:=by
    rcases EU L[m-1] L[m]with h3|h3|h3
    ·exact h3
    ·exact absurd h3 hne
    ·rw[hs (m-1) m (by omega) (by omega)]at h3;cases h3
   by_cases hj1:j=m-1
   ·subst hj1;exact hlast
   ·rcases EU L[j] L[m-1]with h3|h3|h3
    ·exact zI h3 hlast
    ·rw[h3];exact hlast
    ·rw[hs j (m-1) (by omega) (by omega)]at h3;cases h3
  ·rw[if_neg hk,dQ];refine⟨h1,fun z=> ?_⟩;rw[h2,k_List_mem_append];simp only[Lib.keeps,decide_eq_true_eq,not_or,Decidable.not_not]at hk;rw[hg m (by omega),hg (m-1) (by omega)]at hk;constructor
   ·exact .inl
   ·rintro(h3|h3)
    ·exact h3
    ·obtain rfl:z=L[m]:=by simpa using h3
     rw[hk.2];exact aA (i:=m-1) (by rw[bA,if_pos (by omega)];exact aB _)
def rU (l:List Str):List Str:=l.mergeSort fun x y=>decide (x<=y)
def AP (l:List Str):List Str:=Lib.compact (rU l)
def tK (l:List Str):(rU l).length=l.length:=by simp[rU]
def Z4 (l:List Str):Asc (AP l)/\∀z,z∈AP l↔z∈l:=by
 have hp:(rU l).Pairwise fun x y=>decide (x<=y)=true:=by
  refine List.pairwise_mergeSort (fun a b c h1 h2=> ?_) (fun a b=> ?_) l
  ·rw[leS]at h1 h2|-
   simp only[fU]at h1 h2|-
   rcases EU a b with h3|h3|h3
   ·cases hca:ltL c a with
    |false=>rfl
    |true=>rw[zI hca h3]at h2;cases h2
   ·rw[h3];exact h2
   ·rw[h3]at h1;cases h1
  ·rw[leS,leS];rcases EU a b with h3|h3|h3
   ·rw[CF h3];rfl
   ·rw[h3,jU];rfl
   ·rw[CF h3];simp
 have hs:∀i j (hi:i<j) (hj:j<(rU l).length),ltL ((rU l)[j]'hj) ((rU l)[i]'(by omega))=false:=fun i j hi hj=>by
  have:=dN.1 hp i j (by omega) hj hi;rw[leS]at this;simpa using this
 obtain⟨h1,h2⟩:=acO hs (rU l).length (k_Nat_le_refl _);refine⟨h1,fun z=> ?_⟩;rw[AP,Lib.compact,h2,dJ,rU,List.mem_mergeSort]
variable {l:List Str}
def ahC (h:Asc l):rU l=l:=by
 refine List.mergeSort_of_pairwise (h.imp fun{a b} hab=> ?_);rw[leS,CF hab];rfl
def aeP {r:List Str}(hr:Asc r)(h:∀z,z∈r↔z∈l):AP l=r:=(Z4 l).1.unique hr fun z=>by rw[(Z4 l).2,h]
def O8 (l:List Str):(AP l).length<=l.length:=by
 have h:∀m≤(rU l).length,(Lib.compactUpTo (rU l).toArray m).length<=m:=by
  intro m hm
  induction m with
  |zero=>simp[Lib.compactUpTo]
  |succ m ih=>
   rw[Lib.compactUpTo_succ,aO];have:=ih (by omega);split<;>simp<;>omega
 exact k_Nat_le_trans (h (rU l).length (k_Nat_le_refl _)) (Nat.le_of_eq (tK l))
def RQ (s:Str):AP (LW (normal s))=tokens s:=aeP (UC s).1 fun z=>by rw[(UC s).2,LW,dY,decide_eq_true_eq]
def alK (l:List Str):List Str:=(l.map jD).filter fun x=>decide (x≠[])
def alL (s:Str):AP (alK (tokens s))=lY s:=aeP (RP s).1 fun z=>by
 rw[(RP s).2,alK,dY,dF,decide_eq_true_eq];constructor
 ·rintro⟨t,h1,h2,rfl⟩;exact⟨⟨t,h1,rfl⟩,h2⟩
 ·rintro⟨⟨t,h1,rfl⟩,h2⟩;exact⟨t,h1,h2,rfl⟩
def TY:∀(a b:Str),shared a b=b.length↔b.isPrefixOf a=true
 |[],[]=>by simp[shared]
 |[],b::y=>by simp[shared,List.isPrefixOf]
 |a::x,[]=>by simp[shared,List.isPrefixOf]
 |a::x,b::y=>by
  have:=TY x y;rw[shared,List.isPrefixOf];by_cases h:a=b
  ·subst h;simp[this]
  ·have h2:(b==a)=false:=by simp;exact fun e=>h e.symm
   rw[if_neg h,h2];simp
def ahA:∀(a b:Str),(shared a b=a.length/\shared a b=b.length)↔a=b
 |[],[]=>by simp[shared]
 |[],b::y=>by simp[shared]
 |a::x,[]=>by simp[shared]
 |a::x,b::y=>by
  have:=ahA x y;rw[shared];by_cases h:a=b
  ·subst h;simp[this]
  ·rw[if_neg h];simp[h]
def apO (p q:Str):IL p q=if p.length<4\/q.length<4\/shared p.reverse q.reverse<4 then 0 else if p=q then 1000 else if shared p.reverse q.reverse>=7\/q.isSuffixOf p=true\/p.isSuffixOf q=true then 800 else 400:=by
 have h1:=ahA p.reverse q.reverse;have h2:=TY p.reverse q.reverse;have h3:=TY q.reverse p.reverse;rw[O7 q.reverse]at h3;simp only[List.length_reverse,List.reverse_inj]at h1 h2 h3;unfold IL List.isSuffixOf;simp only[←h2,←h3,h1];have e:(shared p.reverse q.reverse>=7\/shared p.reverse q.reverse=p.length\/shared p.reverse q.reverse=q.length)↔(shared p.reverse q.reverse>=7\/shared p.reverse q.reverse=q.length\/shared p.reverse q.reverse=p.length):=by omega
 simp only[e]
def Y9 (E:Int->Int->Prop)(v:Ver):Int->Int->Prop:=fun x y=>E x y\/(E x v.a/\E y v.b)\/(E x v.b/\E y v.a)
def qJ (m n:Int)(z:Int):Int:=if z=max m n then min m n else z
def uM (o:L1)(v:Ver):L1:=if v.same then o.map (qJ (at1 o v.a.toNat) (at1 o v.b.toNat))else o
def AJ:L1:=(List.range 400).map fun(i:Nat)=>(i:Int)
def jX (l:List Ver):L1:=l.foldl uM AJ
def inT (x:Int):Prop:=0<=x/\x<400
structure M4 (E:Int->Int->Prop) (o:L1):Prop where
 len:o.length=400
 rng:∀i<400,0<=at1 o i/\at1 o i<400
 eq:∀x y,inT x->inT y->(at1 o x.toNat=at1 o y.toNat↔E x y)
variable {i:Nat}
def ab5 {o:L1}{f:Int->Int}(h:i<o.length):at1 (o.map f) i=f (at1 o i):=by
 have:=aV h;simp only[at1,aC,aN];rw[aB h];rfl
def M4.step {E:Int->Int->Prop}{o:L1}(h:M4 E o){v:Ver}(ha:inT v.a)(hb:inT v.b)(hs:v.same=true):M4 (Y9 E v) (uM o v):=by
 have hst:uM o v=o.map (qJ (at1 o v.a.toNat) (at1 o v.b.toNat)):=if_pos hs;have r1:=h.rng v.a.toNat (by unfold inT at ha;omega);have r2:=h.rng v.b.toNat (by unfold inT at hb;omega);rw[hst];refine⟨by rw[aX];exact h.len,fun i hi=> ?_,fun x y hx hy=> ?_⟩
 ·rw[ab5 (by rw[h.len];exact hi)];have:=h.rng i hi;unfold qJ;split<;>omega
 ·unfold Y9;rw[ab5 (by rw[h.len];unfold inT at hx;omega),ab5 (by rw[h.len];unfold inT at hy;omega),←h.eq x y hx hy,←h.eq x v.a hx ha,←h.eq y v.b hy hb,←h.eq x v.b hx hb,←h.eq y v.a hy ha];generalize at1 o x.toNat=X;generalize at1 o y.toNat=Y;generalize at1 o v.a.toNat=A;generalize at1 o v.b.toNat=B;unfold qJ;split<;>split<;>omega
def M4.fold:∀(l:List Ver) {E:Int->Int->Prop}{o:L1},M4 E o->(∀v∈l,inT v.a/\inT v.b)->M4 ((l.filter fun v=>v.same).foldl Y9 E) (l.foldl uM o)
 |[],_,_,h,_=>h
 |v::l,E,o,h,hv=>by
  have h1:=hv v (by simp);have h2:=fun w hw=>hv w (bG v hw);rw[k_List_foldl_cons,List.filter_cons];cases hs:v.same with
  |true=>rw[if_pos rfl,k_List_foldl_cons];exact M4.fold l (h.step h1.1 h1.2 hs) h2
  |false=>
   rw[if_neg (by simp)];have:uM o v=o:=if_neg (by simp[hs]);rw[this];exact M4.fold l h h2
def axW:M4 (fun x y=>x=y) AJ:=by
 have h0:∀i<400,at1 AJ i=i:=fun i hi=>by simp[at1,AJ,aC,hi]
 refine⟨by simp[AJ],fun i hi=>by rw[h0 i hi];omega,fun x y hx hy=> ?_⟩;unfold inT at hx hy;rw[h0 _ (by omega),h0 _ (by omega)];omega
def aBL {l:List Ver}(hv:∀v∈l,inT v.a/\inT v.b):M4 ((uN l).foldl Y9 fun x y=>x=y) (jX l):=M4.fold l axW hv
abbrev Dj (g:L2):Prop:=g.Pairwise fun r r'=>∀u∈r,u∉r'
def azB (g:L2)(x y:Int):Prop:=∃r∈g,x∈r/\y∈r
def eqG (g:L2)(x y:Int):Prop:=x=y\/azB g x y
variable {x:Int}{r:L1}
def aiJ :grp x r=true↔x∈r:=by simp[grp]
variable {g:L2}
def vW (h:0<=eQ g x):g[(eQ g x).toNat]?=some (gat g (eQ g x).toNat)/\x∈gat g (eQ g x).toNat:=by
 unfold eQ ix at h|-
 cases hf:g.findIdx? (grp x)with
 |none=>rw[hf]at h;simp at h
 |some i=>
  obtain⟨h1,h2,_⟩:=eY.1 hf;simp only[iE];have h3:g[i]?=some g[i]:=aB h1;rw[zX h3];exact⟨h3,aiJ.1 h2⟩
def TE (h:¬0<=eQ g x)(hr:r∈g):x∉r:=fun hx=>h (iV.2 (cK.2 ⟨r,hr,aiJ.2 hx⟩))
variable {r':L1}{u:Int}
def Dj.uniq (h:Dj g){j:Nat}(hi:g[i]?=some r)(hj:g[j]?=some r')(hu:u∈r)(hu':u∈r'):i=j:=by
 have l1:=dM hi;have l2:=dM hj;rw[aB l1]at hi;rw[aB l2]at hj;obtain rfl:=k_Option_some_inj hi;obtain rfl:=k_Option_some_inj hj;have hp:=dN.1 h;rcases oF i j with h1|h1|h1
 ·exact absurd hu' (hp i j l1 l2 h1 u hu)
 ·exact h1
 ·exact absurd hu (hp j i l2 l1 h1 u hu')
def Dj.one (h:Dj g)(hr:r∈g)(hr':r'∈g)(hu:u∈r)(hu':u∈r'):r=r':=by
 obtain⟨i,hi⟩:=dE hr;obtain⟨j,hj⟩:=dE hr';obtain rfl:=h.uniq hi hj hu hu';rw[hi]at hj;exact k_Option_some_inj hj
def alB (h:Dj g)(hi:g[i]?=some r)(hx:x∈r):eQ g x=i:=by
 have h0:0<=eQ g x:=iV.2 (cK.2 ⟨r,aA hi,aiJ.2 hx⟩);obtain⟨h1,h2⟩:=vW h0;have:=h.uniq h1 hi h2 hx;omega
variable {y:Int}
def same_iff (h:Dj g):(0<=eQ g x/\eQ g x=eQ g y)↔azB g x y:=by
 constructor
 ·rintro⟨h1,h2⟩;obtain⟨a1,a2⟩:=vW h1;obtain⟨b1,b2⟩:=vW (h2▸h1);rw[h2]at a1 a2;exact⟨_,aA b1,a2,b2⟩
 ·rintro⟨r,hr,hx,hy⟩;obtain⟨i,hi⟩:=dE hr;rw[alB h hi hx,alB h hi hy];omega
def acZ (h:eqG g x y):eqG g y x:=by
 rcases h with h|⟨r,hr,h1,h2⟩
 ·exact .inl h.symm
 ·exact .inr ⟨r,hr,h2,h1⟩
def BK (hd:Dj g){z:Int}(h:eqG g x y)(h':eqG g y z):eqG g x z:=by
 rcases h with rfl|⟨r,hr,h1,h2⟩
 ·exact h'
 ·rcases h' with rfl|⟨r',hr',h3,h4⟩
  ·exact .inr ⟨r,hr,h1,h2⟩
  ·obtain rfl:=hd.one hr hr' h2 h3;exact .inr ⟨r,hr,h1,h4⟩
def ZI (g:L2)(a b:Int):yC g a b=((List.range g.length).filter fun(i:Nat)=>decide ((i:Int)≠a/\(i:Int)≠b)).map (gat g):=by
 have h:∀n,loopN n [] (fun(i:Nat) o=>if(i:Int)≠a/\(i:Int)≠b then o++[gat g i]else o)=((List.range n).filter fun(i:Nat)=>decide ((i:Int)≠a/\(i:Int)≠b)).map (gat g):=by
  intro n
  induction n with
  |zero=>rfl
  |succ n ih=>
   rw[aL,ih,gD,gY,jB];by_cases hc:(n:Int)≠a/\(n:Int)≠b
   ·rw[if_pos hc];simp[hc]
   ·rw[if_neg hc];simp only[not_and,Decidable.not_not]at hc;simp;exact hc
 exact h g.length
def ad2 {a b:Int}:r∈yC g a b↔∃i:Nat,g[i]?=some r/\(i:Int)≠a/\(i:Int)≠b:=by
 rw[ZI,dF];constructor
 ·rintro⟨i,hi,rfl⟩;rw[dY,aZ,decide_eq_true_eq]at hi;obtain⟨c,hc⟩:=aQ hi.1;exact⟨i,by rw[zX hc];exact hc,hi.2⟩
 ·rintro⟨i,hi,h⟩;exact⟨i,by rw[dY,aZ,decide_eq_true_eq];exact⟨dM hi,h⟩,zX hi⟩
def aCJ (h:Dj g)(a b:Int):Dj (yC g a b):=by
 rw[ZI];refine xS.2 ((List.pairwise_lt_range.filter _).imp_of_mem fun{i j} hi hj hlt u hu hu'=> ?_);rw[dY,aZ]at hi hj;obtain⟨c,hc⟩:=aQ hi.1;obtain⟨d,hd⟩:=aQ hj.1;rw[zX hc]at hu;rw[zX hd]at hu';have:=h.uniq hc hd hu hu';omega
def aeE (g:L2)(x:Int):L1:=if 0<=eQ g x then gat g (eQ g x).toNat else[x]
def O3 (h:Dj g):u∈aeE g x↔eqG g u x:=by
 unfold aeE;split
 ·next h0=>
  obtain⟨h1,h2⟩:=vW h0;constructor
  ·exact fun hu=> .inr ⟨_,aA h1,hu,h2⟩
  ·rintro(rfl|⟨r,hr,hu,hx⟩)
   ·exact h2
   ·rw[←h.one hr (aA h1) hx h2];exact hu
 ·next h0=>
  constructor
  ·intro hu;exact .inl (by simpa using hu)
  ·rintro(rfl|⟨r,hr,hu,hx⟩)
   ·simp
   ·exact absurd hx (TE h0 hr)
def axO (g:L2)(x y:Int):oP g x y=yC g (eQ g x) (eQ g y)++[if 0<=eQ g x/\eQ g x=eQ g y then aeE g x else aeE g x++aeE g y]:=by
 unfold oP aeE;split
 ·next h=>rw[if_pos h.1]
 ·rfl
def axP (h:Dj g)(v:Ver):Dj (oP g v.a v.b)/\∀u w,eqG (oP g v.a v.b) u w↔Y9 (eqG g) v u w:=by
 obtain⟨M,hM⟩:∃M,M=if 0<=eQ g v.a/\eQ g v.a=eQ g v.b then aeE g v.a else aeE g v.a++aeE g v.b:=⟨_,rfl⟩
 have hj:=axO g v.a v.b;rw[←hM]at hj
 have hin:∀u,u∈M↔eqG g u v.a\/eqG g u v.b:=by
  intro u;rw[hM];split
  ·next hs=>
   rw[O3 h];exact⟨.inl,fun hh=>hh.elim id fun h2=>BK h h2 (acZ (.inr ((same_iff h).1 hs)))⟩
  ·rw[k_List_mem_append,O3 h,O3 h]
 have hrest:∀(i:Nat) (r:L1),g[i]?=some r->(((i:Int)≠eQ g v.a/\(i:Int)≠eQ g v.b)↔∀u∈r,u∉M)\/r=[]:=by
  intro i r hi;by_cases hr:r=[]
  ·exact .inr hr
  ·left;constructor
   ·rintro⟨h1,h2⟩ u hu hm;rcases(hin u).1 hm with h3|h3
    ·have:=(O3 h).2 h3;unfold aeE at this;split at this
     ·next h0=>obtain⟨k1,_⟩:=vW h0;have:=h.uniq hi k1 hu this;omega
     ·next h0=>obtain rfl:u=v.a:=by simpa using this
               exact TE h0 (aA hi) hu
    ·have:=(O3 h).2 h3;unfold aeE at this;split at this
     ·next h0=>obtain⟨k1,_⟩:=vW h0;have:=h.uniq hi k1 hu this;omega
     ·next h0=>obtain rfl:u=v.b:=by simpa using this
               exact TE h0 (aA hi) hu
   ·intro hall;constructor
    ·intro e;have h0:0<=eQ g v.a:=by omega
     obtain⟨k1,k2⟩:=vW h0;rw[←e,iE,hi]at k1;rw[←e,iE,←Option.some.inj k1]at k2;exact hall _ k2 ((hin _).2 (.inl (.inl rfl)))
    ·intro e;have h0:0<=eQ g v.b:=by omega
     obtain⟨k1,k2⟩:=vW h0;rw[←e,iE,hi]at k1;rw[←e,iE,←Option.some.inj k1]at k2;exact hall _ k2 ((hin _).2 (.inr (.inl rfl)))
 have hdis:∀r∈yC g (eQ g v.a) (eQ g v.b),∀u∈r,u∉M:=by
  intro r hr u hu;obtain⟨i,hi,h1⟩:=ad2.1 hr;rcases hrest i r hi with h2|rfl
  ·exact h2.1 h1 u hu
  ·simp at hu
 refine⟨?_,fun u w=> ?_⟩
 ·rw[hj];refine fZ.2 ⟨aCJ h _ _,by simp,fun r hr m hm=> ?_⟩;obtain rfl:m=M:=by simpa using hm
  exact hdis r hr
 ·constructor
  ·rintro(rfl|⟨r,hr,hu,hw⟩)
   ·exact .inl (.inl rfl)
   ·rw[hj,k_List_mem_append]at hr;rcases hr with hr|hr
    ·obtain⟨i,hi,_⟩:=ad2.1 hr;exact .inl (.inr ⟨r,aA hi,hu,hw⟩)
    ·obtain rfl:r=M:=by simpa using hr
     rcases(hin u).1 hu with h1|h1<;>rcases(hin w).1 hw with h2|h2
     ·exact .inl (BK h h1 (acZ h2))
     ·exact .inr (.inl ⟨h1,h2⟩)
     ·exact .inr (.inr ⟨h1,h2⟩)
     ·exact .inl (BK h h1 (acZ h2))
  ·have hm:∀{u w},u∈M->w∈M->eqG (oP g v.a v.b) u w:=fun hu hw=> .inr ⟨M,by rw[hj];simp,hu,hw⟩;rintro(h1|⟨h1,h2⟩|⟨h1,h2⟩)
   ·rcases h1 with rfl|⟨r,hr,hu,hw⟩
    ·exact .inl rfl
    ·by_cases hx:u∈M
     ·refine hm hx ((hin w).2 ?_);have hwu:eqG g w u:= .inr ⟨r,hr,hw,hu⟩;exact((hin u).1 hx).imp (BK h hwu) (BK h hwu)
     ·obtain⟨i,hi⟩:=dE hr;rcases hrest i r hi with h2|rfl
      ·refine .inr ⟨r,?_,hu,hw⟩;rw[hj,k_List_mem_append];refine .inl (ad2.2 ⟨i,hi,h2.2 fun z hz hzM=>hx ((hin u).2 ?_)⟩);have huz:eqG g u z:= .inr ⟨r,hr,hu,hz⟩;exact((hin z).1 hzM).imp (BK h huz) (BK h huz)
      ·simp at hu
   ·exact hm ((hin u).2 (.inl h1)) ((hin w).2 (.inr h2))
   ·exact hm ((hin u).2 (.inr h1)) ((hin w).2 (.inl h2))
def yN (l:List Ver):L2:=l.foldl (fun g v=>oP g v.a v.b) []
def WJ:∀(l:List Ver) {g:L2}{E:Int->Int->Prop},Dj g->(∀u w,eqG g u w↔E u w)->Dj (l.foldl (fun g v=>oP g v.a v.b) g)/\∀u w,eqG (l.foldl (fun g v=>oP g v.a v.b) g) u w↔l.foldl Y9 E u w
 |[],_,_,h,he=>⟨h,he⟩
 |v::l,g,E,h,he=>by
  obtain⟨h1,h2⟩:=axP h v;refine WJ l h1 fun u w=> ?_;rw[h2];unfold Y9;simp only[he]
def adS (l:List Ver):Dj (yN l)/\∀u w,eqG (yN l) u w↔l.foldl Y9 (fun x y=>x=y) u w:=WJ l (by simp) fun u w=>by simp[eqG,azB]
def akD {l ms:List Ver}(hv:∀v∈l,inT v.a/\inT v.b)(hm:uN l=ms)(hx:inT x)(hy:inT y)(hne:x≠y):at1 (jX l) x.toNat=at1 (jX l) y.toNat↔(0<=eQ (yN ms) x/\eQ (yN ms) x=eQ (yN ms) y):=by
 rw[(aBL hv).eq x y hx hy,hm,←(adS ms).2,same_iff (adS ms).1];exact⟨fun h=>h.resolve_left hne,.inr⟩
end Go.Pl
end
section
namespace Go
def mO:= @List.filter_eq_self
def mW:= @List.getElem_set
def oM:= @List.getLast?_eq_some_iff
def k_List_length_eq_zero_iff:= @List.length_eq_zero_iff
def rA:= @List.length_set
def kP:= @List.singleton_append
end Go
end
section
namespace Go.Pl
open Go.Dv
variable {x y:Int}
def PR (h:x<y):cmpI x y= -1:=if_pos h
def PQ (h:y<x):cmpI x y=1:=by unfold cmpI;rw[if_neg (by omega),if_pos h]
def wM (x:Int):cmpI x x=0:=by unfold cmpI;rw[if_neg (by omega),if_neg (by omega)]
def PT (u w:Ver):gF u w<=0↔(u.a<w.a\/u.a=w.a/\(u.b<w.b\/u.b=w.b/\(u.time<w.time\/u.time=w.time/\(u.same=true->w.same=true)))):=by
 unfold gF;rcases gJ u.a w.a with h1|h1|h1
 ·rw[PR h1];simp[h1]
 ·rw[h1,wM];rcases gJ u.b w.b with h2|h2|h2
  ·rw[PR h2];simp[h2]
  ·rw[h2,wM];rcases gJ u.time w.time with h3|h3|h3
   ·rw[PR h3];simp[h3]
   ·rw[h3,wM];cases u.same<;>cases w.same<;>simp
   ·rw[PQ h3];simp;omega
  ·rw[PQ h2];simp;omega
 ·rw[PQ h1];simp;omega
def NE (u w:Ver):gF u w<0↔¬gF w u<=0:=by
 rw[PT];have h:=PT u w
 have h0:gF u w=0->u=w:=by
  unfold gF;rcases gJ u.a w.a with h1|h1|h1
  ·rw[PR h1];simp
  ·rw[h1,wM];rcases gJ u.b w.b with h2|h2|h2
   ·rw[PR h2];simp
   ·rw[h2,wM];rcases gJ u.time w.time with h3|h3|h3
    ·rw[PR h3];simp
    ·rw[h3,wM];intro h4
     have h5:u.same=w.same:=by
      cases hu:u.same<;>cases hw:w.same<;>simp[hu,hw]at h4|-
     cases u;cases w;simp_all
    ·rw[PQ h3];simp
   ·rw[PQ h2];simp
  ·rw[PQ h1];simp
 constructor
 ·intro hlt hle;have h1:=h.1 (by omega)
  have:u.same=w.same:=by
   have e1:u.a=w.a:=by omega
   have e2:u.b=w.b:=by omega
   have e3:u.time=w.time:=by omega
   have a1:u.same=true->w.same=true:=by
    rcases h1 with h1|⟨_,h1|⟨_,h1|⟨_,h1⟩⟩⟩
    ·omega
    ·omega
    ·omega
    ·exact h1
   have a2:w.same=true->u.same=true:=by
    rcases hle with h1|⟨_,h1|⟨_,h1|⟨_,h1⟩⟩⟩
    ·omega
    ·omega
    ·omega
    ·exact h1
   cases hu:u.same<;>cases hw:w.same<;>simp_all
  have e1:u.a=w.a:=by omega
  have e2:u.b=w.b:=by omega
  have e3:u.time=w.time:=by omega
  have:gF u w=0:=by
   unfold gF;rw[e1,e2,e3,this,wM,wM,wM];simp
  omega
 ·intro hn
  have hle:gF u w<=0:=by
   rw[h];rcases gJ u.a w.a with h1|h1|h1
   ·exact .inl h1
   ·refine .inr ⟨h1,?_⟩;rcases gJ u.b w.b with h2|h2|h2
    ·exact .inl h2
    ·refine .inr ⟨h2,?_⟩;rcases gJ u.time w.time with h3|h3|h3
     ·exact .inl h3
     ·refine .inr ⟨h3,fun hu=> ?_⟩;cases hw:w.same with
      |true=>rfl
      |false=>exact absurd (.inr ⟨h1.symm,.inr ⟨h2.symm,.inr ⟨h3.symm,fun e=>by rw[hw]at e;cases e⟩⟩⟩) hn
     ·exact absurd (.inr ⟨h1.symm,.inr ⟨h2.symm,.inl h3⟩⟩) hn
    ·exact absurd (.inr ⟨h1.symm,.inl h2⟩) hn
   ·exact absurd (.inl h1) hn
  have:gF u w≠0:=by
   intro e;have:=h0 e;subst this;exact hn (.inr ⟨rfl,.inr ⟨rfl,.inr ⟨rfl,id⟩⟩⟩)
  omega
variable {u v:Ver}
def acM {w:Ver}(h1:gF u v<=0)(h2:gF v w<=0):gF u w<=0:=by
 rw[PT]at*
 rcases h1 with h1|⟨h1,h1'|⟨h1',h1''|⟨h1'',h1s⟩⟩⟩<;>rcases h2 with h2|⟨h2,h2'|⟨h2',h2''|⟨h2'',h2s⟩⟩⟩
 all_goals first
  |(left;omega)
  |(right;refine⟨by omega,?_⟩;left;omega)
  |(right;refine⟨by omega,?_⟩;right;refine⟨by omega,?_⟩;left;omega)
  |(right;refine⟨by omega,?_⟩;right;refine⟨by omega,?_⟩;right;exact⟨by omega,fun e=>h2s (h1s e)⟩)
def af1 {w:Ver}(h1:gF u w<=0)(h2:gF w u<=0):u=w:=by
 have h3:=(PT u w).1 h1;have h4:=(PT w u).1 h2;have e1:u.a=w.a:=by omega
 have e2:u.b=w.b:=by omega
 have e3:u.time=w.time:=by omega
 have e4:u.same=w.same:=by
  have a1:u.same=true->w.same=true:=by
   rcases h3 with h1|⟨_,h1|⟨_,h1|⟨_,h1⟩⟩⟩<;>first|omega|exact h1
  have a2:w.same=true->u.same=true:=by
   rcases h4 with h1|⟨_,h1|⟨_,h1|⟨_,h1⟩⟩⟩<;>first|omega|exact h1
  cases hu:u.same<;>cases hw:w.same<;>simp_all
 cases u;cases w;simp_all
variable {α:Type}
def aiM (p:α->Bool)(l:List α)(v:α):(jW p l v).Perm (v::l):=by
 unfold jW;rw[bO,kP];refine List.perm_middle.trans ?_;rw[cZ]
def zY (p:α->α->Bool):∀(l t:List α),(l.foldl (fun out v=>jW (p v) out v) t).Perm (t++l)
 |[],t=>by simp
 |x::l,t=>by
  rw[k_List_foldl_cons];refine(zY p l _).trans ?_;refine((aiM (p x) t x).append_right l).trans ?_;rw[iA];exact List.perm_middle.symm
def E5 (l:List Ver):(iC l).Perm l:=by have:=zY sW l [];rwa [iM]at this
def G6 (l:List Ver):(tQ l).Perm l:=by have:=zY CK l [];rwa [iM]at this
abbrev KH (l:List Ver):Prop:=l.Pairwise fun a b=>gF a b<=0
def ab7 (p:α->Bool)(l:List α):(∀x∈l.drop (l.length-backs p l),p x=true)/\∀c,(l.take (l.length-backs p l)).getLast?=some c->p c=false:=by
 have hb:=ajS p l
 have h1:l.drop (l.length-backs p l)=(l.reverse.takeWhile p).reverse:=by
  have:l.reverse.take (backs p l)=l.reverse.takeWhile p:=by
   have hp:=nT (p:=p) (l:=l.reverse);unfold backs;exact(List.prefix_iff_eq_take.1 hp).symm
  rw[←this,List.reverse_take];simp
 have h2:l.take (l.length-backs p l)=(l.reverse.dropWhile p).reverse:=by
  have h3:l=(l.reverse.dropWhile p).reverse++(l.reverse.takeWhile p).reverse:=by
   rw[←List.reverse_append,List.takeWhile_append_dropWhile,List.reverse_reverse]
  have h4:=cZ (l.length-backs p l) l;rw[h1]at h4;exact pW (h4.trans h3)
 refine⟨fun x hx=> ?_,fun c hc=> ?_⟩
 ·rw[h1,List.mem_reverse]at hx;exact aI.1 List.all_takeWhile x hx
 ·rw[h2,List.getLast?_reverse]at hc;have:=List.head?_dropWhile_not p l.reverse;rw[hc]at this;simpa using this
variable {l:List Ver}
def adQ (h:KH l)(v:Ver):KH (jW (sW v) l v):=by
 obtain⟨h1,h2⟩:=ab7 (sW v) l;unfold jW;generalize l.length-backs (sW v) l=k at h1 h2|-
 have hl:∀x∈l.take k,gF x v<=0:=by
  intro x hx
  obtain⟨c,hc⟩:∃c,(l.take k).getLast?=some c:=by
   cases hg:(l.take k).getLast? with
   |some c=>exact⟨c,rfl⟩
   |none=>rw[List.getLast?_eq_none_iff]at hg;rw[hg]at hx;cases hx
  have h3:=h2 c hc;simp only[sW,decide_eq_false_iff_not]at h3;obtain⟨t,ht⟩:=oM.1 hc;have hs:KH (l.take k):=h.sublist (rX _ _);rw[ht]at hx hs;rcases k_List_mem_append.1 hx with hx|hx
  ·exact acM ((fZ.1 hs).2.2 x hx c (by simp)) (by omega)
  ·obtain rfl:x=c:=by simpa using hx
   omega
 have hr:∀x∈l.drop k,gF v x<=0:=by
  intro x hx;have h3:=h1 x hx;simp only[sW,decide_eq_true_eq]at h3;have:=(NE v x).2 (by omega);omega
 rw[bO,kP];have hs:=h;rw[←List.take_append_drop k l]at hs;obtain⟨a1,a2,a3⟩:=fZ.1 hs;refine fZ.2 ⟨a1,dV.2 ⟨hr,a2⟩,fun x hx y hy=> ?_⟩;rcases aS.1 hy with rfl|hy
 ·exact hl x hx
 ·exact a3 x hx y hy
def GN (l:List Ver):KH (iC l):=by
 have key:∀(l t:List Ver),KH t->KH (l.foldl (fun out v=>jW (sW v) out v) t):=by
  intro l
  induction l with
  |nil=>exact fun t h=>h
  |cons v l ih=>exact fun t h=>ih _ (adQ h v)
 exact key l [] List.Pairwise.nil
def apY {a b:List Ver}(h:a.Perm b):iC a=iC b:=
 List.Perm.eq_of_pairwise (le:=fun u w=>gF u w<=0) (fun u w _ _=>af1) (GN a) (GN b) ((E5 a).trans (h.trans (E5 b).symm))
def an5 {R:α->α->Bool}(ht:∀a b c,R a b=true->R b c=true->R a c=true):∀{l:List α},adj R l=true->l.Pairwise fun a b=>R a b=true
 |[],_=>List.Pairwise.nil
 |[a],_=>by simp
 |a::b::l,h=>by
  simp only[adj,k_Bool_and_eq_true]at h;have ih:=an5 ht h.2;refine dV.2 ⟨fun c hc=> ?_,ih⟩;rcases aS.1 hc with rfl|hc
  ·exact h.1
  ·exact ht _ _ _ h.1 ((dV.1 ih).1 c hc)
def aEP {R:α->α->Bool}{l:List α}(h:l.Pairwise fun a b=>R a b=true):adj R l=true:=by
 rw[abC];intro i a b ha hb;have l1:=dM ha;have l2:=dM hb;rw[aB l1]at ha;rw[aB l2]at hb;rw[←Option.some.inj ha,←Option.some.inj hb];exact dN.1 h i (i+1) l1 l2 (by omega)
def KM (h:kT l=true):(∀v∈l,fI v=true)/\(l.Pairwise fun a b=>gF a b<0)/\l.length<=8:=by
 simp only[kT,k_Bool_and_eq_true,decide_eq_true_eq,aI]at h;refine⟨h.1.1,?_,h.2⟩
 have:=an5 (R:=fun a b=>decide (gF a b<0)) (fun a b c h1 h2=>by
  simp only[decide_eq_true_eq]at h1 h2|-
  rw[NE]at h1 h2|-
  intro h3;have h4:gF b c<=0:=by have:=(NE b c).2 h2;omega
  exact h1 (acM h4 h3)) h.1.2
 exact this.imp fun h=>by simpa using h
def rH (h:fI v=true):inT v.a/\inT v.b/\v.a<v.b:=by
 simp only[fI,k_Bool_and_eq_true,decide_eq_true_eq]at h;unfold inT;omega
def an9 (h1:∀v∈l,fI v=true)(h2:KH l)(h3:l.Nodup)(h4:l.length<=8):kT l=true:=by
 simp only[kT,k_Bool_and_eq_true,decide_eq_true_eq,aI];refine⟨⟨h1,aEP ?_⟩,h4⟩;refine(h2.and h3).imp fun{u w} ⟨a,b⟩=> ?_;simp only[decide_eq_true_eq];rw[NE];exact fun hh=>b (af1 a hh)
def ltK (u w:Ver):Prop:=u.a<w.a\/u.a=w.a/\u.b<w.b
structure aFB (l:List Ver) (i:Nat) (o:List Ver):Prop where
 sub:∀u∈o,u∈l.take i
 asc:o.Pairwise ltK
 top:∀p,o[o.length-1]?=some p->∀w∈l.take i,¬ltK p w
def aC3 (h:kT l=true):∀i≤l.length,aFB l i ((l.take i).foldl qR [])
 |0,_=>⟨by simp,by simp,by simp⟩
 |i+1,hi=>by
  have ih:=aC3 h i (by omega);obtain⟨c,hc⟩:=aQ (l:=l) (i:=i)
  have hle:∀w∈l.take i,¬ltK c w:=by
   intro w hw hk;obtain⟨j,hj⟩:=dE hw;have hjl:j<i:=by have:=dM hj;simp at this;omega
   rw[bA,if_pos hjl]at hj;have l1:=dM hc;have l2:=dM hj;rw[aB l1]at hc;rw[aB l2]at hj;have:=dN.1 (KM h).2.1 j i l2 l1 hjl;rw[k_Option_some_inj hc,k_Option_some_inj hj]at this;have h5:=(PT w c).1 (by omega);unfold ltK at hk;omega
  rw[fA qR [] hc];have hts:=dX hc;generalize(l.take i).foldl qR []=o at ih|-
  have hpush:(∀u∈o,ltK u c)->aFB l (i+1) (o++[c]):=by
   intro hu;refine⟨fun u hm=> ?_,fZ.2 ⟨ih.asc,by simp,fun u hu' w hw=> ?_⟩,fun p hp w hw=> ?_⟩
   ·rw[hts,k_List_mem_append];rcases k_List_mem_append.1 hm with hm|hm
    ·exact .inl (ih.sub u hm)
    ·exact .inr hm
   ·obtain rfl:w=c:=by simpa using hw
    exact hu u hu'
   ·have:p=c:=by simpa using hp.symm
    subst this;rw[hts,k_List_mem_append]at hw;rcases hw with hw|hw
    ·exact hle w hw
    ·obtain rfl:w=p:=by simpa using hw
     unfold ltK;omega
  unfold qR;split
  ·next hn=>
   have ho:o=[]:=by
    rw[List.getElem?_eq_none_iff]at hn;exact k_List_length_eq_zero_iff.1 (by omega)
   subst ho;exact hpush (by simp)
  ·next u hu=>
   have hum:u∈o:=aA hu;have hulen:=dM hu;have huc:=hle u (ih.sub u hum);split
   ·next hne=>
    refine hpush fun x hx=> ?_;have:=ih.top u hu x (ih.sub x hx);unfold ltK at*
    omega
   ·next hne=>
    have hk:u.a=c.a/\u.b=c.b:=by omega
    split
    ·refine⟨fun x hx=> ?_,?_,fun p hp w hw=> ?_⟩
     ·rw[hts,k_List_mem_append];rcases jC hx with hx|rfl
      ·exact .inl (ih.sub x hx)
      ·exact .inr (by simp)
     ·rw[dN];intro a b ha hb hab;rw[rA]at ha hb;have hp:=dN.1 ih.asc a b ha hb hab;rw[mW,mW];have hul:o[o.length-1]=u:=by rw[aB hulen]at hu;exact k_Option_some_inj hu
      rw[if_neg (by omega)];split
      ·next e=>
       subst e;rw[hul]at hp;unfold ltK at*
       omega
      ·exact hp
     ·rw[rA,bR (by omega)]at hp;obtain rfl:=k_Option_some_inj hp;rw[hts,k_List_mem_append]at hw;rcases hw with hw|hw
      ·exact hle w hw
      ·obtain rfl:w=c:=by simpa using hw
       unfold ltK;omega
    ·refine⟨fun x hx=> ?_,ih.asc,fun p hp w hw=> ?_⟩
     ·rw[hts,k_List_mem_append];exact .inl (ih.sub x hx)
     ·rw[hts,k_List_mem_append]at hw;rcases hw with hw|hw
      ·exact ih.top p hp w hw
      ·obtain rfl:w=c:=by simpa using hw
       rw[hu]at hp;obtain rfl:=k_Option_some_inj hp;unfold ltK;omega
def aoJ (h:kT l=true):(∀v∈gM l,fI v=true)/\(gM l).Nodup:=by
 have hi:=aC3 h l.length (k_Nat_le_refl _);rw[dJ]at hi;refine⟨fun v hv=>(KM h).1 v (by have:=hi.sub v hv;rwa [dJ]at this),hi.asc.imp fun{u w} hk e=> ?_⟩;subst e;unfold ltK at hk;omega
def acQ (l:List Ver):(gM l).length<=l.length:=by
 have:=FC qR (fun t x=>by
  unfold qR;split
  ·simp
  ·split
   ·simp
   ·split<;>simp) l []
 simpa[gM]using this
def acI (l:List Ver):Bool:=l.any fun v=> !v.same&&decide (at1 (jX l) v.a.toNat=at1 (jX l) v.b.toNat)
def GR (st:List Ver×List Ver)(v:Ver):List Ver×List Ver:=if acI (st.1++[v])=true then(st.1,st.2++[v])else(st.1++[v],st.2)
def aeS (l:List Ver):List Ver×List Ver:=(tQ (uN (gM l))).foldl GR (apart (gM l),[])
variable {C:List Ver}
def asF {ms:List Ver}(hC:∀v∈C,v.same=false)(hm:∀v∈ms,v.same=true)(hv:∀v∈C++ms,fI v=true):acI (C++ms)= !(C.all (BH (yN ms))):=by
 have hs:uN (C++ms)=ms:=by
  unfold uN;rw[gY,rO.2 (fun v h=>by simp[hC v h]),mO.2 hm];rfl
 have hin:∀v∈C++ms,inT v.a/\inT v.b:=fun v h=>⟨(rH (hv v h)).1,(rH (hv v h)).2.1⟩;unfold acI;generalize hL:C++ms=L at hs hin hv|-
 have h1:(L.any fun v=> !v.same&&decide (at1 (jX L) v.a.toNat=at1 (jX L) v.b.toNat))=C.any fun v=> !BH (yN ms) v:=by
  rw[bH,cK,cK]
  have key:∀v∈L,(decide (at1 (jX L) v.a.toNat=at1 (jX L) v.b.toNat)=true↔(!BH (yN ms) v)=true):=by
   intro v h;have hvv:=rH (hv v h);rw[decide_eq_true_eq,akD hin hs hvv.1 hvv.2.1 (by omega)];simp[BH]
  constructor
  ·rintro⟨v,hm1,h2⟩;rw[k_Bool_and_eq_true]at h2;refine⟨v,?_,(key v hm1).1 h2.2⟩;rw[←hL]at hm1;rcases k_List_mem_append.1 hm1 with h3|h3
   ·exact h3
   ·rw[hm v h3]at h2;simp at h2
  ·rintro⟨v,hm1,h2⟩;have hm2:v∈L:=by rw[←hL];simp[hm1]
   exact⟨v,hm2,by rw[k_Bool_and_eq_true];exact⟨by rw[hC v hm1];rfl,(key v hm2).2 h2⟩⟩
 rw[h1,List.any_eq_not_all_not];simp
structure aGV (cur C open':List Ver) (s:L2×List Ver×List Ver) (st:List Ver×List Ver) (ms:List Ver):Prop where
 kept:st.1=C++ms
 grp:s.1=yN ms
 same:∀v∈ms,v.same=true
 perm:(st.1++st.2++open').Perm cur
 sort:iC s.2.1=iC st.1
 ref:s.2.2=st.2
def TZ {cur:List Ver}(h8:cur.length<=8)(hval:∀v∈cur,fI v=true)(hnd:cur.Nodup)(hC:∀v∈C,v.same=false):∀(open':List Ver),(∀v∈open',v.same=true)->∀{s:L2×List Ver×List Ver}{st:List Ver×List Ver}{ms:List Ver},aGV cur C open' s st ms->iC (open'.foldl (uO C) s).2.1=iC (open'.foldl GR st).1/\(open'.foldl (uO C) s).2.2=(open'.foldl GR st).2
 |[],_,s,st,ms,h=>⟨h.sort,h.ref⟩
 |v::rest,hsame,s,st,ms,h=>by
  rw[k_List_foldl_cons,k_List_foldl_cons];have hv:v.same=true:=hsame v (by simp)
  have hms:∀w∈ms++[v],w.same=true:=by
   intro w hw;rcases k_List_mem_append.1 hw with hw|hw
   ·exact h.same w hw
   ·obtain rfl:w=v:=by simpa using hw
    exact hv
  have hsub:∀w∈C++(ms++[v]),fI w=true:=by
   intro w hw;refine hval w (h.perm.mem_iff.1 ?_);rw[h.kept];simp only[k_List_mem_append,aS,List.not_mem_nil,or_false]at hw|-
   rcases hw with hw|hw|hw
   ·exact .inl (.inl (.inl hw))
   ·exact .inl (.inl (.inr hw))
   ·exact .inr (.inl hw)
  have hcl:=asF hC hms hsub;have hja:yN (ms++[v])=oP s.1 v.a v.b:=by rw[h.grp,yN,lU];rfl
  rw[hja]at hcl;have hk1:st.1++[v]=C++(ms++[v]):=by rw[h.kept,bO]
  by_cases hc:C.all (BH (oP s.1 v.a v.b))=true
  ·have e1:uO C s v=(oP s.1 v.a v.b,yS (iC s.2.1) v,s.2.2):=if_pos hc;have e2:GR st v=(st.1++[v],st.2):=if_neg (by rw[hk1,hcl,hc];simp);rw[e1,e2]
   have hp:(st.1++[v]++st.2++rest).Perm cur:=by
    refine List.Perm.trans ?_ h.perm;rw[bO,bO,bO];refine List.Perm.append_left _ ?_;rw[kP];exact List.perm_middle.symm
   refine TZ h8 hval hnd hC rest (fun w hw=>hsame w (by simp[hw])) ⟨hk1,hja.symm,hms,hp,?_,h.ref⟩;have hS:(iC s.2.1).Perm st.1:=by rw[h.sort];exact E5 _
   have hlen:=hp.length_eq;simp only[aO,aR,jA]at hlen
   have hnd2:(st.1++[v]).Nodup:=by
    have:=hp.nodup_iff.2 hnd;rw[bO]at this;exact(lV.1 this).1
   have hmem:∀w∈iC s.2.1,fI w=true:=fun w hw=>hsub w (by rw[←hk1,k_List_mem_append];exact .inl (hS.mem_iff.1 hw))
   have hok:FD (iC s.2.1) v=true:=by
    simp only[FD,k_Bool_and_eq_true,fU,decide_eq_true_eq];refine⟨⟨⟨an9 hmem (GN _) ?_ ?_,hsub v (by simp)⟩,?_⟩,?_⟩
    ·exact hS.nodup_iff.2 (lV.1 hnd2).1
    ·rw[hS.length_eq];omega
    ·rw[fD];intro w hw;have hw2:=hS.mem_iff.1 hw;have:=(lV.1 hnd2).2.2 w hw2 v (by simp);simpa using this
    ·rw[hS.length_eq];omega
   have hadd:yS (iC s.2.1) v=(iC s.2.1).take (ab0 (iC s.2.1) v)++[v]++(iC s.2.1).drop (ab0 (iC s.2.1) v):=if_pos hok;refine apY ?_;simp only;rw[hadd,bO,kP];refine List.perm_middle.trans ?_;rw[cZ];refine(hS.cons v).trans ?_;have:=List.perm_append_comm (l₁:=[v]) (l₂:=st.1);simpa using this
  ·have e1:uO C s v=(s.1,s.2.1,s.2.2++[v]):=if_neg hc;have e2:GR st v=(st.1,st.2++[v]):=if_pos (by rw[hk1,hcl,(by simpa using hc:C.all (BH (oP s.1 v.a v.b))=false)];rfl);rw[e1,e2]
   have hp:(st.1++(st.2++[v])++rest).Perm cur:=by
    refine List.Perm.trans ?_ h.perm;simp[bO]
   exact TZ h8 hval hnd hC rest (fun w hw=>hsame w (by simp[hw])) ⟨h.kept,h.grp,h.same,hp,h.sort,by rw[h.ref]⟩
def aeT (h:kT l=true):iC (aeS l).1=nK l/\iC (aeS l).2=jO l:=by
 obtain⟨hval,hnd⟩:=aoJ h
 have h8:(gM l).length<=8:=by
  have:=(KM h).2.2;have:=acQ l;omega
 have hp:(apart (gM l)++tQ (uN (gM l))).Perm (gM l):=by
  refine((G6 _).append_left _).trans ?_;refine List.perm_append_comm.trans ?_;exact List.filter_append_perm (fun v:Ver=>v.same) (gM l)
 have:=TZ (cur:=gM l) (C:=apart (gM l)) h8 hval hnd (fun v hv=>by simpa using(dY.1 hv).2) (tQ (uN (gM l))) (fun v hv=>(dY.1 ((G6 _).mem_iff.1 hv)).2) (s:=([],apart (gM l),[])) (st:=(apart (gM l),[])) (ms:=[]) ⟨by simp,rfl,by simp,by simpa using hp,rfl,rfl⟩;unfold nK jO IQ aeS;rw[this.1,this.2];exact⟨rfl,rfl⟩
end Go.Pl
end
section
namespace Go
def pY:= @List.find?_range_eq_some
end Go
end
section
namespace Go.Pl
open Go.Dv
def GL (f:Nat->Bool):Nat->Option Nat
 |0=>none
 |a+1=>if f a=true then some a else GL f a
variable {a:Nat}
def TS {f:Nat->Bool}:∀{n:Nat},GL f n=some a↔a<n/\f a=true/\∀k,a<k->k<n->f k=false
 |0=>by simp[GL]
 |n+1=>by
  rw[GL];by_cases h:f n=true
  ·rw[if_pos h,aJ];constructor
   ·rintro rfl;exact⟨by omega,h,fun k h1 h2=>by omega⟩
   ·rintro⟨h1,h2,h3⟩;by_cases he:n=a
    ·exact he
    ·rw[h3 n (by omega) (by omega)]at h;cases h
  ·rw[if_neg h,TS];have hf:f n=false:=by simpa using h
   constructor
   ·rintro⟨h1,h2,h3⟩;refine⟨by omega,h2,fun k hk hkn=> ?_⟩;by_cases he:k=n
    ·rw[he];exact hf
    ·exact h3 k hk (by omega)
   ·rintro⟨h1,h2,h3⟩;refine⟨?_,h2,fun k hk hkn=>h3 k hk (by omega)⟩;by_cases he:a=n
    ·rw[he,hf]at h2;cases h2
    ·omega
def ZN (o items:L1)(b a:Nat):Bool:=decide (at1 o (at1 items a).toNat=at1 o (at1 items b).toNat)
def LB (o items:L1)(b:Nat):List Con:=match GL (ZN o items b) b with
 |some a=>[⟨a,b,true⟩]
 |none=>[]
def AC (o items:L1)(n:Nat):List Con:=(List.range n).flatMap (LB o items)
def akE (kept:List Ver)(items:L1):List Con:=E9 (apart kept) items++AC (jX kept) items items.length
def afE (o items:L1)(n:Nat):AC o items (n+1)=AC o items n++LB o items n:=by simp[AC,gD]
variable {l:L1}
def ahT (h:l.Nodup){i k:Nat}(hi:i<l.length)(hk:k<l.length)(e:at1 l i=at1 l k):i=k:=by
 have h1:=aV hi;have h2:=aV hk;rw[aB hi]at h1;rw[aB hk]at h2;have h3:l[i]=l[k]:=by rw[k_Option_some_inj h1,k_Option_some_inj h2,e]
 rcases oF i k with hlt|he|hlt
 ·exact absurd h3 (dN.1 h i k hi hk hlt)
 ·exact he
 ·exact absurd h3.symm (dN.1 h k i hk hi hlt)
def asJ {kept:List Ver}{items:L1}(hk:∀v∈kept,fI v=true)(hi:∀x∈items,inT x)(hn:items.Nodup):(akE kept items).Perm (nU kept items):=by
 have hin:∀v∈kept,inT v.a/\inT v.b:=fun v h=>⟨(rH (hk v h)).1,(rH (hk v h)).2.1⟩;have hj:joined kept=yN (uN kept):=rfl
 have link:∀a b,a<items.length->b<items.length->a≠b->(ZN (jX kept) items b a=true↔(0<=eQ (joined kept) (at1 items a)/\eQ (joined kept) (at1 items a)=eQ (joined kept) (at1 items b))):=by
  intro a b ha hb hne;have h1:=hi _ (aA (aV ha));have h2:=hi _ (aA (aV hb));rw[ZN,decide_eq_true_eq,akD hin rfl h1 h2 (fun e=>hne (ahT hn ha hb e)),hj]
 have hmem:∀c,c∈AC (jX kept) items items.length↔c∈KD (joined kept) items:=by
  intro c;unfold AC KD;simp only[List.mem_flatMap,aZ];constructor
  ·rintro⟨b,hb,hc⟩;unfold LB at hc;split at hc
   ·next a ha=>
    obtain rfl:c=⟨a,b,true⟩:=by simpa using hc
    obtain⟨h1,h2,h3⟩:=TS.1 ha;have h4:=(link a b (by omega) hb (by omega)).1 h2;refine⟨a,by omega,?_⟩
    have h5:OZ (joined kept) items a=some b:=by
     unfold OZ;rw[pY];refine⟨by simp;exact⟨h1,h4.2.symm⟩,by simpa using hb,fun k hkb=> ?_⟩;simp only[fU,kL,decide_eq_false_iff_not];by_cases hak:a<k
     ·right;intro e;have:=(link k b (by omega) hb (by omega)).2 ⟨by rw[e];exact h4.1,by rw[e];exact h4.2⟩;rw[h3 k hak hkb]at this;cases this
     ·left;exact hak
    unfold rY;rw[if_pos h4.1,h5];simp
   ·cases hc
  ·rintro⟨a,ha,hc⟩;unfold rY at hc;split at hc
   ·next h0=>
    split at hc
    ·next b hb=>
     obtain rfl:c=⟨a,b,true⟩:=by simpa using hc
     unfold OZ at hb;rw[pY]at hb;obtain⟨h1,h2,h3⟩:=hb;simp only[k_Bool_and_eq_true,decide_eq_true_eq]at h1;have hbl:b<items.length:=by simpa using h2
     refine⟨b,hbl,?_⟩
     have h5:GL (ZN (jX kept) items b) b=some a:=by
      rw[TS];refine⟨h1.1,(link a b ha hbl (by omega)).2 ⟨h0,h1.2.symm⟩,fun k hak hkb=> ?_⟩;rw[jR];intro hl;have h6:=(link k b (by omega) hbl (by omega)).1 hl;have h7:=h3 k hkb;simp only[fU,kL,decide_eq_false_iff_not]at h7;rcases h7 with h7|h7
      ·exact h7 hak
      ·exact h7 (by rw[h6.2,h1.2])
     unfold LB;rw[h5];simp
    ·cases hc
   ·cases hc
 have hnd1:(AC (jX kept) items items.length).Nodup:=by
  refine List.pairwise_flatMap.2 ⟨fun b _=> ?_,List.pairwise_lt_range.imp fun{b b'} hlt x hx y hy=> ?_⟩
  ·unfold LB;split<;>simp
  ·unfold LB at hx hy;split at hx<;>split at hy
   ·obtain rfl:=k_List_mem_singleton.1 hx;obtain rfl:=k_List_mem_singleton.1 hy;intro e;have:=congrArg Con.b e;simp at this;omega
   all_goals simp at hx hy
 have hnd2:(KD (joined kept) items).Nodup:=by
  refine List.pairwise_flatMap.2 ⟨fun b _=> ?_,List.pairwise_lt_range.imp fun{b b'} hlt x hx y hy=> ?_⟩
  ·unfold rY;split
   ·split<;>simp
   ·simp
  ·unfold rY at hx hy;split at hx<;>split at hy
   ·split at hx<;>split at hy
    ·obtain rfl:=k_List_mem_singleton.1 hx;obtain rfl:=k_List_mem_singleton.1 hy;intro e;have:=congrArg Con.a e;simp at this;omega
    all_goals simp at hx hy
   all_goals simp at hx hy
 have hp:=(List.perm_ext_iff_of_nodup hnd1 hnd2).2 hmem;unfold akE nU;exact List.perm_append_comm.trans (hp.append_right _)
def gstep (c:Nat->Int->Bool)(v:Int)(k:Nat)(l:L1):L1:=if c k (at1 l k)=true then l.set k v else l
def adM (c:Nat->Int->Bool)(v:Int)(l:L1):∀j≤l.length,(loopN j l (gstep c v)).length=l.length/\∀k,k<l.length->at1 (loopN j l (gstep c v)) k=if k<j/\c k (at1 l k)=true then v else at1 l k
 |0,_=>⟨rfl,fun k hk=>by rw[loopN_zero,if_neg (by omega)]⟩
 |j+1,hj=>by
  obtain⟨h1,h2⟩:=adM c v l j (by omega);rw[aL];have h3:=h2 j (by omega);rw[if_neg (by omega)]at h3;generalize loopN j l (gstep c v)=o at h1 h2 h3|-
  unfold gstep;rw[h3];by_cases hc:c j (at1 l j)=true
  ·rw[if_pos hc];refine⟨by simp[h1],fun k hk=> ?_⟩;rw[yI k (by omega),h2 k hk];by_cases hjk:j=k
   ·subst hjk;rw[if_pos rfl,if_pos ⟨by omega,hc⟩]
   ·rw[if_neg hjk];by_cases h4:k<j/\c k (at1 l k)=true
    ·rw[if_pos h4,if_pos ⟨by omega,h4.2⟩]
    ·rw[if_neg h4,if_neg (fun h5=>h4 ⟨by omega,h5.2⟩)]
  ·rw[if_neg hc];refine⟨h1,fun k hk=> ?_⟩;rw[h2 k hk];by_cases h4:k<j/\c k (at1 l k)=true
   ·rw[if_pos h4,if_pos ⟨by omega,h4.2⟩]
   ·rw[if_neg h4,if_neg];rintro⟨h5,h6⟩;by_cases hjk:k=j
    ·subst hjk;exact hc h6
    ·exact h4 ⟨by omega,h6⟩
def pvB (m:L2)(p:Nat)(k:Nat)(z:Int):Bool:=decide (0<at2 m p k)&&decide (z<0)
def ZT (m:L2)(order:L1)(i:Nat)(l:L1):L1:=if 0<=at1 l (at1 order i).toNat then l else loopN m.length (l.set (at1 order i).toNat (at1 order i)) (gstep (pvB m (at1 order i).toNat) (at1 order i))
def ay2 (m:L2)(order:L1):L1:=loopN order.length (List.replicate m.length (-1)) (ZT m order)
def PvR (order:L1)(n:Nat)(a b:L1):Prop:=a.length=n/\b.length=n/\∀k<n,(at1 a k= -1/\at1 b k= -1)\/(0<=at1 a k/\at1 a k<order.length/\at1 b k=at1 order (at1 a k).toNat)
def auG (m:L2)(p x:Int):yP m p x=gstep (fun k z=>decide (z<0/\((k:Int)=p\/at2 m p.toNat k>0))) x:=by
 funext k l;unfold yP gstep;simp only[decide_eq_true_eq]
variable {m:L2}{order:L1}
def aEO (hm:bP m=true)(ho:GA m.length order=true):∀j≤order.length,PvR order m.length (loopN j (List.replicate m.length (-1)) (pivOne m order)) (loopN j (List.replicate m.length (-1)) (ZT m order)):=by
 obtain⟨hol,_,_,hnd,hrg⟩:=WH ho;intro j
 induction j with
 |zero=>
  refine fun _=>⟨by simp[loopN_zero],by simp[loopN_zero],fun k hk=> .inl ?_⟩;simp[loopN_zero,at1,aC,hk]
 |succ j ih=>
  intro hj;have hr:=ih (by omega);rw[aL,aL];generalize loopN j (List.replicate m.length (-1)) (pivOne m order)=a at hr|-
  generalize loopN j (List.replicate m.length (-1)) (ZT m order)=b at hr|-
  obtain⟨ha,hb,h⟩:=hr;have hp:=hrg j (by omega);have hpl:(at1 order j).toNat<m.length:=by omega
  have hpp:=h _ hpl;unfold pivOne ZT
  have hsg:(0<=at1 a (at1 order j).toNat)↔(0<=at1 b (at1 order j).toNat):=by
   rcases hpp with⟨h1,h2⟩|⟨h1,h2,h3⟩
   ·omega
   ·have:=hrg (at1 a (at1 order j).toNat).toNat (by omega);omega
  by_cases h0:0<=at1 a (at1 order j).toNat
  ·rw[if_pos h0,if_pos (hsg.1 h0)];exact⟨ha,hb,h⟩
  ·rw[if_neg h0,if_neg (fun e=>h0 (hsg.2 e)),auG];obtain⟨g1,g2⟩:=adM (fun k z=>decide (z<0/\((k:Int)=at1 order j\/at2 m (at1 order j).toNat k>0))) (j:Int) a m.length (by omega);obtain⟨g3,g4⟩:=adM (pvB m (at1 order j).toNat) (at1 order j) (b.set (at1 order j).toNat (at1 order j)) m.length (by simp[hb]);refine⟨by rw[g1,ha],by rw[g3];simp[hb],fun k hk=> ?_⟩;rw[g2 k (by omega),g4 k (by simp[hb,hk])];rw[yI k (by omega)];have hk0:=h k hk
   have hd:at2 m (at1 order j).toNat (at1 order j).toNat=0:=by
    have:=hm;rw[YM]at this;simp only[EJ,k_Bool_and_eq_true,aI,aZ,decide_eq_true_eq]at this;exact(this.1 _ hpl).1.2
   by_cases hkp:(at1 order j).toNat=k
   ·rw[if_pos hkp];have h5:at1 a k<0:=by rw[←hkp];omega
    rw[if_pos ⟨hk,by simp only[decide_eq_true_eq];exact⟨h5,.inl (by omega)⟩⟩];rw[if_neg (by rintro⟨_,h6⟩;simp only[pvB,k_Bool_and_eq_true,decide_eq_true_eq]at h6;omega)];right;refine⟨by omega,by omega,?_⟩;simp
   ·rw[if_neg hkp];have hkp':¬(k:Int)=at1 order j:=by omega
    by_cases hw:at1 a k<0/\at2 m (at1 order j).toNat k>0
    ·have hbk:at1 b k<0:=by
      rcases hk0 with h6|h6
      ·omega
      ·omega
     rw[if_pos ⟨hk,by simp only[decide_eq_true_eq];exact⟨hw.1,.inr hw.2⟩⟩,if_pos ⟨hk,by simp only[pvB,k_Bool_and_eq_true,decide_eq_true_eq];exact⟨hw.2,hbk⟩⟩];right;refine⟨by omega,by omega,by simp⟩
    ·rw[if_neg (by rintro⟨_,h6⟩;simp only[decide_eq_true_eq]at h6;exact hw ⟨h6.1,h6.2.resolve_left hkp'⟩)];rw[if_neg]
     ·exact hk0
     ·rintro⟨_,h6⟩;simp only[pvB,k_Bool_and_eq_true,decide_eq_true_eq]at h6;rcases hk0 with h7|⟨h7,h8,h9⟩
      ·exact hw ⟨by omega,h6.1⟩
      ·have:=hrg (at1 a k).toNat (by omega);omega
def ay1 (hm:bP m=true)(ho:GA m.length order=true):canon (ay2 m order)=kI m order:=by
 obtain⟨hol,_,_,hnd,hrg⟩:=WH ho;obtain⟨h1,h2,h3⟩:=aEO hm ho order.length (k_Nat_le_refl _);unfold kI abR ay2;refine(aj8 (by rw[h1,h2]) fun i k hi hk=> ?_).symm;rw[h1]at hi hk;have a:=h3 i hi;have b:=h3 k hk;rcases a with⟨a1,a2⟩|⟨a1,a2,a3⟩<;>rcases b with⟨b1,b2⟩|⟨b1,b2,b3⟩
 ·omega
 ·have:=hrg _ (show(at1 (loopN order.length (List.replicate m.length (-1)) (pivOne m order)) k).toNat<order.length by omega);omega
 ·have:=hrg _ (show(at1 (loopN order.length (List.replicate m.length (-1)) (pivOne m order)) i).toNat<order.length by omega);omega
 ·rw[a3,b3];constructor
  ·intro e;rw[e]
  ·intro e;have:=ahT hnd (by omega) (by omega) e;omega
def apE {σ:Type}{n:Nat}{s:σ}{f:Nat->σ->σ}(h:∀i x,a<=i->i<n->f i x=x)(ha:a<=n):loopN n s f=loopN a s f:=by
 induction n with
 |zero=>obtain rfl:a=0:=by omega
        rfl
 |succ n ih=>
  by_cases he:a=n+1
  ·rw[he]
  ·rw[aL,h n _ (by omega) (by omega)];exact ih (fun i x h1 h2=>h i x h1 (by omega)) (by omega)
def mvGain (m:L2)(l:L1)(i k:Nat):Int:=dL m l-dL m (canon (l.set i k))
def GH (m:L2)(cs:List Con)(l:L1)(i k:Nat)(b:Mov):Mov:=if mvGain m l i k>b.gain/\mY cs (canon (l.set i k))=true then⟨i,k,mvGain m l i k⟩else b
def aq9 (m:L2)(cs:List Con)(l:L1)(i:Nat)(b:Mov):Mov:=loopN (BF l+2).toNat b (GH m cs l i)
def mvBest (m:L2)(cs:List Con)(l:L1):Mov:=loopN l.length ⟨0,0,0⟩ (aq9 m cs l)
def anV (h:fQ l=true):BF l<l.length/\ -1<=BF l:=by
 have hr:=(isPart_iff.1 h).1;have hl:=(isPart_len h).1
 have key:∀j≤l.length, -1<=loopN j (-1) (fun i t=>max t (at1 l i))/\loopN j (-1) (fun i t=>max t (at1 l i))<(l.length:Int):=by
  intro j
  induction j with
  |zero=>intro _;rw[loopN_zero];omega
  |succ j ih=>
   intro hj;have:=ih (by omega);have:=avB hr j (by omega);rw[aL];omega
 have:=key l.length (k_Nat_le_refl _);unfold BF;omega
def R4 (h:1<=l.length/\l.length<=8):fQ (canon l)=true:=isPart_iff.2 ⟨JH l,by rw[oV];exact h.1,by rw[oV];exact h.2⟩
def J9 (hm:bP m=true)(hp:fQ l=true)(hl:l.length=m.length):vJ m l=dL m l:=if_pos ⟨hm,hp,hl⟩
variable {cs:List Con}
def atN (hm:bP m=true)(hp:fQ l=true)(hl:l.length=m.length)(hk:mY cs l=true):mvBest m cs l=mG m cs l:=by
 have hc:aj7 m cs l=true:=by
  unfold aj7;rw[J9 hm hp hl,alI hp,hk];have:=kG hm l;simp[this]
 have ht:=anV hp;have hpl:=isPart_len hp;unfold mvBest mG;rw[if_pos hc];refine wH fun i b hi=> ?_;unfold aq9 ab9
 have h1:loopN (l.length+1) b (xJ m cs l i)=loopN (BF l+2).toNat b (xJ m cs l i):=by
  refine apE (fun k x h1 h2=> ?_) (by omega);unfold xJ;rw[if_neg];rintro⟨h3,_⟩;simp only[xX,k_Bool_and_eq_true,decide_eq_true_eq]at h3;omega
 rw[h1];refine wH fun k b hk2=> ?_
 have hok:xX l i k=true:=by
  simp only[xX,k_Bool_and_eq_true,decide_eq_true_eq];exact⟨⟨hp,by omega⟩,by omega⟩
 have hmv:rE l i k=canon (l.set i k):=by
  unfold rE;rw[if_pos hok];simp
 have hcl:(canon (l.set i k)).length=l.length:=by rw[oV];simp
 have hcp:fQ (canon (l.set i k))=true:=R4 (by simp;omega)
 have hg:J3 m l i k=mvGain m l i k:=by
  unfold J3 mvGain;have:=kG hm l;rw[J9 hm hp hl,if_pos ⟨hok,this⟩,hmv,J9 hm hcp (by omega)]
 unfold GH xJ;rw[hg,hmv,alI hcp];simp[hok]
def agT :0<=(mvBest m cs l).gain/\(0<(mvBest m cs l).gain->0<=(mvBest m cs l).item/\(mvBest m cs l).item<l.length/\0<=(mvBest m cs l).block/\(mvBest m cs l).block<=BF l+1/\mY cs (canon (l.set (mvBest m cs l).item.toNat (mvBest m cs l).block))=true):=by
 refine loopN_inv (fun _ (b:Mov)=>0<=b.gain/\(0<b.gain->0<=b.item/\b.item<l.length/\0<=b.block/\b.block<=BF l+1/\mY cs (canon (l.set b.item.toNat b.block))=true)) ⟨by simp,by simp⟩ fun i b hi hb=> ?_;refine loopN_inv (fun _ (b:Mov)=>0<=b.gain/\(0<b.gain->0<=b.item/\b.item<l.length/\0<=b.block/\b.block<=BF l+1/\mY cs (canon (l.set b.item.toNat b.block))=true)) hb fun k b hk hb=> ?_;unfold GH;split
 ·next h=>exact⟨by simp only;omega,fun _=>⟨by simp only;omega,by simp only;omega,by simp only;omega,by simp only;omega,by simpa using h.2⟩⟩
 ·exact hb
def ao8 (hm:bP m=true)(hp:fQ l=true)(hl:l.length=m.length)(hk:mY cs l=true)(f:Nat):qY m cs (f+1) l=if 0<(mvBest m cs l).gain then qY m cs f (canon (l.set (mvBest m cs l).item.toNat (mvBest m cs l).block))else l:=by
 rw[qY,←atN hm hp hl hk];obtain⟨h1,h2⟩:=agT (m:=m) (cs:=cs) (l:=l);split
 ·next hg=>
  have h3:=h2 hg;congr 1;unfold rE;rw[if_pos];simp only[xX,k_Bool_and_eq_true,decide_eq_true_eq];exact⟨⟨hp,by omega⟩,by omega⟩
 ·rfl
end Go.Pl
end
section
namespace Go
def gG:= @List.set_append_right
def eH:= @Nat.sub_self
end Go
end
section
namespace Go.Pl
open Go.Dv
variable {n:Nat}
def arJ {a b:L2}(ha:sq2 n a)(hb:sq2 n b)(h:∀i k,i<n->k<n->at2 a i k=at2 b i k):a=b:=by
 apply jS;intro i;by_cases hi:i<n
 ·rw[(rZ ha hi).1,(rZ hb hi).1];congr 1;refine ahS (by rw[(rZ ha hi).2,(rZ hb hi).2]) fun k hk=> ?_;rw[(rZ ha hi).2]at hk;exact h i k hi hk
 ·rw[k_List_getElem__eq_none (by rw[ha.1];omega),k_List_getElem__eq_none (by rw[hb.1];omega)]
def wAt (l:List Rec)(rs:List (List Tst))(s:Sco)(i k:Nat):Int:=iT rs s (DC (recAt l i) (recAt l k))
def ahY (l:List Rec)(rs:List (List Tst))(s:Sco)(i k:Nat)(m:L2):L2:=set2 (set2 m i k (wAt l rs s i k)) k i (wAt l rs s i k)
def aj3 (l:List Rec)(rs:List (List Tst))(s:Sco)(i:Nat)(m:L2):L2:=loopN i m (ahY l rs s i)
def bwM (l:List Rec)(rs:List (List Tst))(s:Sco):L2:=loopN l.length (zeros l.length) (aj3 l rs s)
variable {i k:Nat}
def aE8 (l:List Rec)(rs:List (List Tst))(s:Sco)(h:k<i):wAt l rs s i k=lN l rs s i k:=by
 unfold wAt lN;rw[if_neg (by omega),Nat.min_eq_right (by omega),Nat.max_eq_left (by omega),aoS]
variable {l:List Rec}{rs:List (List Tst)}{s:Sco}{m:L2}
def ahZ (h:sq2 n m)(hi:i<n)(hk:k<i):sq2 n (ahY l rs s i k m):=wZ (wZ h hi _) (by omega) _
def aFI (h:sq2 n m)(hi:i<n)(hk:k<=i):sq2 n (loopN k m (ahY l rs s i)):=loopN_inv (fun _ m=>sq2 n m) h fun j m hj hm=>ahZ hm hi (by omega)
def aDQ (hi:i<=n):sq2 n (loopN i (zeros n) (aj3 l rs s)):=loopN_inv (fun _ m=>sq2 n m) (pF n) fun j m hj hm=>aFI hm (by omega) (k_Nat_le_refl _)
def aDP (l:List Rec)(rs:List (List Tst))(s:Sco):bwM l rs s=weights l rs s:=by
 have hw:sq2 l.length (weights l rs s):=⟨by simp[weights],fun r hr=>by
  unfold weights at hr;rw[dF]at hr;obtain⟨i,_,rfl⟩:=hr;simp[xC]⟩
 refine arJ (aDQ (k_Nat_le_refl _)) hw fun a b ha hb=> ?_;rw[UD l rs s ha hb]
 have key:=loopN_inv (n:=l.length) (s:=zeros l.length) (f:=aj3 l rs s) (fun i m=>sq2 l.length m/\∀a b,a<l.length->b<l.length->at2 m a b=if a<i/\b<i then lN l rs s a b else 0) ⟨pF _,fun a b _ _=>by rw[JG,if_neg (by omega)]⟩ fun i m hi ⟨h1,h2⟩=>by
  have h3:=loopN_inv (n:=i) (s:=m) (f:=ahY l rs s i) (fun k m'=>sq2 l.length m'/\∀a b,a<l.length->b<l.length->at2 m' a b=if(a<i/\b<i)\/(a=i/\b<k)\/(b=i/\a<k)then lN l rs s a b else 0) ⟨h1,fun a b ha hb=>by rw[h2 a b ha hb];by_cases hc:a<i/\b<i;(rw[if_pos hc,if_pos (.inl hc)]);rw[if_neg hc,if_neg (by omega)]⟩ fun k m' hk ⟨h4,h5⟩=>by
   refine⟨ahZ h4 hi hk,fun a b ha hb=> ?_⟩;unfold ahY;rw[CZ (wZ h4 hi _) (by omega) hi,CZ h4 hi (by omega),h5 a b ha hb,aE8 l rs s hk];by_cases c1:a=k/\b=i
   ·obtain⟨rfl,rfl⟩:=c1;rw[if_pos ⟨rfl,rfl⟩,if_pos (by omega),RS]
   ·rw[if_neg c1];by_cases c2:a=i/\b=k
    ·obtain⟨rfl,rfl⟩:=c2;rw[if_pos ⟨rfl,rfl⟩,if_pos (by omega)]
    ·rw[if_neg c2];by_cases c3:(a<i/\b<i)\/(a=i/\b<k)\/(b=i/\a<k)
     ·rw[if_pos c3,if_pos (by omega)]
     ·rw[if_neg c3,if_neg (by omega)]
  refine⟨h3.1,fun a b ha hb=> ?_⟩;rw[aj3,h3.2 a b ha hb];by_cases c:a=i/\b=i
  ·obtain⟨rfl,rfl⟩:=c;rw[if_neg (by omega),if_pos (by omega)];simp[lN]
  ·by_cases c2:(a<i/\b<i)\/(a=i/\b<i)\/(b=i/\a<i)
   ·rw[if_pos c2,if_pos (by omega)]
   ·rw[if_neg c2,if_neg (by omega)]
 rw[bwM,key.2 a b ha hb,if_pos ⟨ha,hb⟩]
variable {j:Nat}
section
variable (x y:Str) (tr:Bool)
def edP (i k:Nat):L1:=edR x y tr i k++List.replicate (y.length+1-k) 0
def edT (i:Nat):L2:=(List.range i).map fun i=>edR x y tr i (y.length+1)
def edU (i k:Nat):L2:=edT x y tr i++edP x y tr i k::List.replicate (x.length-i) []
variable {x y tr}
def PV (i k:Nat):(edR x y tr i k).length=k:=by simp[edR]
def aAJ (h:k<=y.length+1):(edP x y tr i k).length=y.length+1:=by simp[edP,PV];omega
def abI (h:j<k:=by omega):(edR x y tr i k)[j]?=some (ed x y tr i j):=by simp[edR,h]
def aAI (h:j<k):(edP x y tr i k)[j]?=some (ed x y tr i j):=by
 rw[edP,aW (by rw[PV];exact h),abI h]
def aDU (h:k<=y.length):(edP x y tr i k)[k]?=some 0:=by
 rw[edP,aY (by rw[PV];omega),PV,eH,eZ,if_pos (by omega)]
def aAK (h:k<=y.length):(edP x y tr i k).set k (ed x y tr i k)=edP x y tr i (k+1):=by
 obtain⟨d,hd⟩:∃d,y.length+1-k=d+1:=⟨y.length-k,by omega⟩;have hd2:y.length+1-(k+1)=d:=by omega
 rw[edP,edP,hd,hd2,gG _ _ (by rw[PV];omega),PV,eH,fJ,kN,edR,edR,gD,jB];simp
def CU (i:Nat):(edT x y tr i).length=i:=by simp[edT]
def aqT (h:j<i):(edT x y tr i)[j]?=some (edR x y tr j (y.length+1)):=by simp[edT,h]
def aAM (h:j<i):(edU x y tr i k)[j]?=some (edR x y tr j (y.length+1)):=by
 rw[edU,aW (by rw[CU];exact h),aqT h]
def aqU (i k:Nat):(edU x y tr i k)[i]?=some (edP x y tr i k):=by
 rw[edU,aY (by rw[CU];omega),CU,eH];rfl
def aAO (i k:Nat)(r:L1):(edU x y tr i k).set i r=edT x y tr i++r::List.replicate (x.length-i) []:=by
 rw[edU,gG _ _ (by rw[CU];omega),CU,eH];rfl
def awH (i:Nat):edT x y tr (i+1)=edT x y tr i++[edR x y tr i (y.length+1)]:=by simp[edT,gD]
def aAH (i:Nat):edP x y tr i (y.length+1)=edR x y tr i (y.length+1):=by simp[edP]
end
section
variable {α:Type}
def kJ (p:α->α->Bool)(l:List α):List α:=l.foldl (fun out v=>jW (p v) out v) []
def WF (out:List α)(v:α)(j:Nat):List α:=out.take j++v::out.drop j
def CO (p:α->α->Bool)(l:List α)(i j:Nat)(v:α):List α:=WF (kJ p (l.take i)) v j++l.drop (i+1)
def atF (p:α->α->Bool)(l:List α):(kJ p l).length=l.length:=by have:=CX p l [];rwa [jA,bU]at this
def yV {p:α->α->Bool}{l:List α}(h:i<=l.length:=by omega):(kJ p (l.take i)).length=i:=by rw[atF];simp;omega
def atE (out:List α)(v:α):WF out v out.length=out++[v]:=by simp[WF]
def arI {p:α->α->Bool}{l:List α}{v:α}(h:l[i]?=some v):CO p l i i v=kJ p (l.take i)++l.drop i:=by
 have hi:=dM h;have hl:=yV (p:=p) (l:=l) (i:=i)
 have:WF (kJ p (l.take i)) v i=kJ p (l.take i)++[v]:=by
  have:=atE (kJ p (l.take i)) v
  rwa [hl]at this
 rw[CO,this,bO,bN hi];rw[aB hi]at h;rw[k_Option_some_inj h];rfl
def anD {p:α->α->Bool}{l:List α}{v:α}(hi:i<l.length)(hj:j<=i):(CO p l i j v)[j]?=some v:=by
 have hl:=yV (p:=p) (l:=l) (i:=i);rw[CO,WF,bO,aY (by simp;omega)];simp[hl,fH hj]
def ahD {p:α->α->Bool}{l:List α}{v c:α}(hi:i<l.length)(hj:j<i)(hc:(kJ p (l.take i))[j]?=some c):(CO p l i (j+1) v)[j]?=some c:=by
 have hl:=yV (p:=p) (l:=l) (i:=i);rw[CO,WF,bO,aW (by simp;omega),bA,if_pos (by omega),hc]
def auO {p:α->α->Bool}{l:List α}{v c:α}(hi:i<l.length)(hj:j<i)(hc:(kJ p (l.take i))[j]?=some c):((CO p l i (j+1) v).set (j+1) c).set j v=CO p l i j v:=by
 have hl:=yV (p:=p) (l:=l) (i:=i);have h1:(kJ p (l.take i)).take (j+1)=(kJ p (l.take i)).take j++[c]:=dX hc
 have h2:(kJ p (l.take i)).drop j=c::(kJ p (l.take i)).drop (j+1):=by
  have hlt:=dM hc;rw[bN hlt];rw[aB hlt]at hc;rw[k_Option_some_inj hc]
 have h3:((kJ p (l.take i)).take j).length=j:=by simp;omega
 rw[CO,CO,WF,WF,h1,h2];generalize(kJ p (l.take i)).take j=A at h3|-
 generalize(kJ p (l.take i)).drop (j+1)=B;subst h3;simp
def XF {p:α->α->Bool}{l:List α}{v:α}(h:l[i]?=some v)(hj:j<=i)(h1:∀k c,j<=k->(kJ p (l.take i))[k]?=some c->p v c=true)(h2:j=0\/∃c,(kJ p (l.take i))[j-1]?=some c/\p v c=false):CO p l i j v=kJ p (l.take (i+1))++l.drop (i+1):=by
 have hi:=dM h;have hl:=yV (p:=p) (l:=l) (i:=i)
 have h3:kJ p (l.take (i+1))=jW (p v) (kJ p (l.take i)) v:=by
  rw[kJ,fA _ _ h];rfl
 have h4:=M8 (p:=p v) (l:=kJ p (l.take i)) (k:=j) (by omega) (fun k hk hlt=>h1 k _ hk (aB hlt)) h2;rw[h3,CO,WF,jW,h4];simp
end
def KT (f:Nat->Nat->Int)(i k:Nat)(m:L2):L2:=set2 m i k (f i k)
def UZ (n:Nat)(f:Nat->Nat->Int)(i:Nat)(m:L2):L2:=loopN n m (KT f i)
def awO (n:Nat)(f:Nat->Nat->Int):L2:=loopN n (zeros n) (UZ n f)
variable {f:Nat->Nat->Int}
def aoT (h:sq2 n m)(hi:i<n):sq2 n (loopN j m (KT f i)):=loopN_inv (fun _ m=>sq2 n m) h fun k m _ hm=>wZ hm hi _
def aAT (hj:j<=n):sq2 n (loopN j (zeros n) (UZ n f)):=loopN_inv (fun _ m=>sq2 n m) (pF n) fun i m hi hm=>aoT hm (by omega)
def aAS {a b:Nat}(ha:a<n)(hb:b<n):at2 (awO n f) a b=f a b:=by
 have h:=loopN_inv (n:=n) (s:=zeros n) (f:=UZ n f) (fun i m=>sq2 n m/\∀a b,a<i->b<n->at2 m a b=f a b) ⟨pF n,fun a b h=>by omega⟩ fun i m hi ⟨h1,h2⟩=>by
  have h3:=loopN_inv (n:=n) (s:=m) (f:=KT f i) (fun k m'=>sq2 n m'/\(∀a b,a<i->b<n->at2 m' a b=f a b)/\∀b,b<k->at2 m' i b=f i b) ⟨h1,h2,fun b h=>by omega⟩ fun k m' hk ⟨h4,h5,h6⟩=>by
   refine⟨wZ h4 hi _,fun a b ha hb=> ?_,fun b hb=> ?_⟩
   ·rw[KT,CZ h4 hi hk,if_neg (by omega)];exact h5 a b ha hb
   ·rw[KT,CZ h4 hi hk];by_cases e:b=k
    ·subst e;simp
    ·rw[if_neg (by omega)];exact h6 b (by omega)
  refine⟨h3.1,fun a b ha hb=> ?_⟩;by_cases e:a=i
  ·subst e;exact h3.2.2 b hb
  ·exact h3.2.1 a b (by omega) hb
 exact h.2 a b ha hb
def azK {items:L1}:awO items.length (fun i k=>at2 m (at1 items i).toNat (at1 items k).toNat)=kF m items:=by
 refine arJ (aAT (k_Nat_le_refl _)) ⟨by simp[kF],fun r hr=> ?_⟩ fun i k hi hk=> ?_
 ·unfold kF at hr;rw[dF]at hr;obtain⟨x,_,rfl⟩:=hr;simp
 ·show at2 (awO items.length _) i k=_;rw[aAS hi hk,ahU hi hk]
end Go.Pl
end
section
namespace Go
def wT:= @Bool.not_false
def nY:= @List.isSuffixOf_iff_suffix
end Go
end
section
namespace Go.Pl
open Go.Dv
def azX (c:UInt8)(s:Str):Str:=if s.getLast?=some c then s.dropLast else s
def azY (c:UInt8)(s:Str):Lib.trimSuffix s [c]=azX c s:=by
 unfold Lib.trimSuffix Lib.hasSuffix azX;rcases List.eq_nil_or_concat s with rfl|⟨t,d,rfl⟩
 ·simp
 ·rw[List.concat_eq_append]
  have e:([c].isSuffixOf (t++[d]))=decide (c=d):=by
   by_cases h:c=d
   ·subst h;simp[nY]
   ·have h2:¬[c]<:+t++[d]:=fun hs=>h (by
     obtain⟨p,hp⟩:=hs;have:=congrArg List.getLast? hp;simpa using this)
    have:([c].isSuffixOf (t++[d]))≠true:=fun e=>h2 (nY.1 e);simp[h,this]
  rw[e];by_cases h:c=d
  ·subst h;simp
  ·rw[if_neg (by simpa using h),if_neg];simp only[List.getLast?_append,List.getLast?_singleton,Option.some_or,aJ];exact fun e=>h e.symm
def NF:∀s:Str,Lib.containsAny s [124,59]= !s.all uT
 |[]=>rfl
 |b::l=>by
  have ih:=NF l;unfold Lib.containsAny at ih|-
  have hge:=Lib.indexAny_ge [124,59] l;unfold Lib.indexAny
  have hb:uT b= !(decide (b=124)||decide (b=59)):=by
   unfold uT;have e1:(b.toNat=124)↔b=124:=⟨fun h=>k_UInt8_toNat_inj.1 h,fun h=>by rw[h];rfl⟩;have e2:(b.toNat=59)↔b=59:=⟨fun h=>k_UInt8_toNat_inj.1 h,fun h=>by rw[h];rfl⟩;simp only[e1,e2]
  simp only[uJ,hb];by_cases h:b=124\/b=59
  ·rw[if_pos (by simpa using h)];rcases h with h|h<;>simp[h]
  ·have h':b≠124/\b≠59:=⟨fun e=>h (.inl e),fun e=>h (.inr e)⟩;rw[if_neg (by simpa using h')];simp only[h'.1,h'.2,decide_false,Bool.or_self,wT,eX];rw[←ih];split
   ·rename_i h1;have:Lib.indexAny l [124,59]= -1:=by simpa using h1
    rw[this]
   ·rename_i h1;have:Lib.indexAny l [124,59]≠ -1:=by simpa using h1
    simp;omega
def bef (c:UInt8)(s:Str):Str:=s.takeWhile fun d=>decide (d≠c)
def aft (c:UInt8)(s:Str):Str:=(s.dropWhile fun d=>decide (d≠c)).drop 1
def WE (c:UInt8):∀s:Str,Lib.indexByte s c=if c∈s then((s.takeWhile fun d=>decide (d≠c)).length:Int)else -1
 |[]=>rfl
 |b::l=>by
  unfold Lib.indexByte;rw[WE c l];by_cases h:b=c
  ·subst h;simp
  ·have hb:¬(b==c)=true:=by simpa using h
   have hmem:c∈b::l↔c∈l:=⟨fun e=>(aS.1 e).resolve_left (fun e=>h e.symm),fun e=>bG _ e⟩;rw[if_neg hb,List.takeWhile_cons_of_pos (by simpa using h)];by_cases hm:c∈l
   ·rw[if_pos hm,if_pos (hmem.2 hm),if_neg (by rw[beq_iff_eq];omega),aR];omega
   ·rw[if_neg hm,if_neg (fun e=>hm (hmem.1 e))];rfl
def XT {c:UInt8}:∀{s:Str},c∈s->s=bef c s++c::aft c s/\c∉bef c s
 |[],h=>by cases h
 |d::s,h=>by
  by_cases hd:d=c
  ·subst hd;simp[bef,aft]
  ·have ih:=XT (s:=s) ((aS.1 h).resolve_left (fun e=>hd e.symm));unfold bef aft at ih|-
   rw[List.takeWhile_cons_of_pos (by simpa using hd),List.dropWhile_cons_of_pos (by simpa using hd)];refine⟨by rw[iA,←ih.1],fun hm=> ?_⟩;rcases aS.1 hm with e|hm
   ·exact hd e.symm
   ·exact ih.2 hm
variable {c:UInt8}{s:Str}
def azQ (h:c∈s):s.take (s.takeWhile fun d=>decide (d≠c)).length=bef c s/\s.drop ((s.takeWhile fun d=>decide (d≠c)).length+1)=aft c s:=by
 have hs:=(XT h).1;have hb:(s.takeWhile fun d=>decide (d≠c))=bef c s:=rfl;rw[hb];constructor
 ·conv=>lhs;rw[hs]
  rw[show bef c (bef c s++c::aft c s)=bef c s by rw[←hs]];simp
 ·conv=>lhs;rw[hs]
  rw[show bef c (bef c s++c::aft c s)=bef c s by rw[←hs],pX,List.drop_of_length_le (by omega),show(bef c s).length+1-(bef c s).length=1 by omega];simp
def WZ (c:UInt8):∀(k:Nat) (s:Str),s.count c=k->Lib.replaceK [c] [] k s=s.filter fun d=> !decide (d=c)
 |0,s,h=>by
  have hm:c∉s:=List.count_eq_zero.1 h;unfold Lib.replaceK;symm;rw[mO];intro d hd;simp;rintro rfl;exact hm hd
 |k+1,s,h=>by
  have hm:c∈s:=List.count_pos_iff.1 (by omega);have ht:=azQ hm;have hs:=XT hm;have h2:(bef c s++c::aft c s).count c=k+1:=by rw[←hs.1];exact h
  rw[List.count_append,List.count_eq_zero.2 hs.2,List.count_cons_self]at h2;unfold Lib.replaceK;rw[Lib.index_one,WE,if_pos hm,if_neg (by rw[beq_iff_eq];omega)];simp only[iE,dZ,ht.1,ht.2,dQ];rw[WZ c k (aft c s) (by omega)]
  conv=>rhs;rw[hs.1]
  rw[gY,qM (by simp)];congr 1;symm;rw[mO];intro d hd;simp;rintro rfl;exact hs.2 hd
def aeK (c:UInt8)(s:Str):Lib.replaceAll s [c] []=s.filter fun d=> !decide (d=c):=by
 unfold Lib.replaceAll Lib.replace;rw[if_neg (by simp)];have:Lib.replaceNum s [c] (-1)=s.count c:=by unfold Lib.replaceNum;rw[if_pos (.inl (by omega)),Lib.count_one]
 rw[this,WZ c _ s rfl]
def azW (s:Str):ahK s=azX 32 s:=rfl
def isSp (x:Nat):Bool:=decide (x=32)
def ext(s:Str)(x:Nat×Nat):Str:=(s.drop x.1).take (x.2-x.1)
def az0 {i:Nat}(h:s[i]?=some c)(hc:c.toNat<128):Utf8.decode (⟨s.toArray⟩:ByteArray) i=(c.toNat,1):=by
 have hi:=dM h;rw[aB hi]at h;unfold Utf8.decode;simp[ByteArray.get!,hi,k_Option_some_inj h,hc]
def UQ (s:Str)(pos:Nat):Option Nat->Str
 |none=>[]
 |some a=>(s.drop a).take (pos-a)
def spans_eq (hs:∀c∈s,c.toNat<128):∀(f pos:Nat) (st:Option Nat) (acc:List (Nat×Nat)),s.length-pos<=f->pos<=s.length->(∀a,st=some a->a<pos)->
  (Lib.closeSpans ⟨s.toArray⟩ (Lib.spansFromP isSp ⟨s.toArray⟩ f pos st acc)).map (ext s)=acc.map (ext s)++(R8 32 (UQ s pos st) (s.drop pos)).filter fun x=>decide (x≠[])
 |f,pos,st,acc,hf,hp,hst=>by
  have hsz:(⟨s.toArray⟩:ByteArray).size=s.length:=by simp[ByteArray.size]
  by_cases hlt:pos<s.length
  ·cases f with
   |zero=>omega
   |succ f=>
    obtain⟨c,hc⟩:∃c,s[pos]?=some c:=⟨s[pos],by simp[hlt]⟩;have hca:=hs c (aA hc);have hd:=az0 hc hca;have hdr:s.drop pos=c::s.drop (pos+1):=by rw[bN hlt];rw[aB hlt]at hc;rw[k_Option_some_inj hc]
    have ih:=fun st acc h=>spans_eq hs f (pos+1) st acc (by omega) (by omega) h;unfold Lib.spansFromP;rw[if_pos (by rw[hsz];exact hlt),hd,hdr];unfold R8
    have hct:isSp c.toNat=true↔c=32:=by
     unfold isSp;rw[decide_eq_true_eq];exact⟨fun e=>k_UInt8_toNat_inj.1 (by simpa using e),fun e=>by rw[e];rfl⟩
    by_cases h32:c=32
    ·rw[if_pos (hct.2 h32),if_pos h32];cases st with
     |none=>
      simp only;rw[ih none acc (fun a h=>by cases h)];simp[UQ]
     |some a=>
      have ha:=hst a rfl;simp only;rw[ih none _ (fun a h=>by cases h)]
      have hne:ext s (a,pos)≠[]:=by
       intro e;have:=congrArg List.length e;simp[ext]at this;omega
      have hcw:UQ s pos (some a)=ext s (a,pos):=rfl;rw[hcw,mK (by simpa using hne)];simp[UQ]
    ·rw[if_neg (fun e=>h32 (hct.1 e)),if_neg h32];cases st with
     |none=>
      simp only;rw[ih (some pos) acc (fun a h=>by cases h;omega)];have:UQ s (pos+1) (some pos)=UQ s pos none++[c]:=by simp[UQ,hdr]
      rw[this]
     |some a=>
      have ha:=hst a rfl;simp only;rw[ih (some a) acc (fun b h=>by cases h;omega)]
      have:UQ s (pos+1) (some a)=UQ s pos (some a)++[c]:=by
       simp only[UQ];rw[show pos+1-a=pos-a+1 by omega];exact dX (by rw[dR,show a+(pos-a)=pos by omega];exact hc)
      rw[this]
  ·obtain rfl:pos=s.length:=by omega
   have he:Lib.spansFromP isSp ⟨s.toArray⟩ f s.length st acc=(acc,st):=Lib.spansFromP_end _ _ _ _ _ _ (by rw[hsz];omega);rw[he,List.drop_length];cases st with
   |none=>simp[Lib.closeSpans,UQ,R8]
   |some a=>
    have ha:=hst a rfl
    have hne:UQ s s.length (some a)≠[]:=by
     intro e;have:=congrArg List.length e;simp[UQ]at this;omega
    simp only[Lib.closeSpans,R8];rw[mK (by simpa using hne),hsz];simp[ext,UQ]
def af8 (hs:∀c∈s,c.toNat<128):(Lib.goFieldsP isSp ⟨s.toArray⟩).map (fun b=>b.data.toList)=LW s:=by
 unfold Lib.goFieldsP Lib.spansOfP;have hsz:(⟨s.toArray⟩:ByteArray).size=s.length:=by simp[ByteArray.size]
 have:=spans_eq hs s.length 0 none [] (by omega) (by omega) (fun a h=>by cases h);rw[sQ]
 have he:(fun b:ByteArray=>b.data.toList)∘(fun x:Nat×Nat=>(⟨s.toArray⟩:ByteArray).extract x.1 x.2)=ext s:=by
  funext x;simp only[Function.comp_apply,Lib.extract_data,ext]
 rw[he,hsz,this];rfl
end Go.Pl
end
section
namespace Go
def jN:= @Nat.pow_le_pow_right
end Go
end
section
namespace Go.Pl
open Go.Dv
def aAD (c:UInt8):Prop:=48<=c.toNat/\c.toNat<=57
def abH (m:Nat):aAD (UInt8.ofNat (48+m % 10))/\(UInt8.ofNat (48+m % 10)).toNat=48+m % 10:=by
 have h:(UInt8.ofNat (48+m % 10)).toNat=48+m % 10:=by rw[wF];omega
 exact⟨⟨by omega,by omega⟩,h⟩
def ad4:∀(m:Nat),∀c∈nZ m,aAD c:=by
 intro m
 induction m using Nat.strongRecOn with
 |ind m ih=>
  intro c hc;by_cases h0:m=0
  ·subst h0;rw[wJ]at hc;cases hc
  ·rw[wI h0]at hc;rcases k_List_mem_append.1 hc with hc|hc
   ·exact ih (m/10) (by omega) c hc
   ·obtain rfl:=k_List_mem_singleton.1 hc;exact(abH m).1
def ag0 {st:Int×Int}{c:UInt8}(h:aAD c):IK st c=(st.1*10+(c.toNat-48),st.2+1):=if_pos h
def ZQ (m:Nat):(nZ m).foldl IK (0,0)=((m:Int),((nZ m).length:Int)):=by
 induction m using Nat.strongRecOn with
 |ind m ih=>
  by_cases h0:m=0
  ·subst h0;rw[wJ];rfl
  ·rw[wI h0,lU,ih (m/10) (by omega),k_List_foldl_cons,List.foldl_nil,ag0 (abH m).1,(abH m).2];simp only[aO,aR,jA];congr 1
   ·omega
def agU {m:Nat}(h:m≠0):nZ m≠[]:=by rw[wI h];simp
variable {n:Int}
def auF (h: -999999999<=n/\n<=999999999):nA (xL n)=true/\lJ (xL n)=n:=by
 have hl:=TN n.natAbs 9 (by omega)
 have key:lJ (xL n)=n/\(tC (xL n)).2<=9/\(xL n).length<=10:=by
  by_cases h0:n=0
  ·subst h0;decide
  ·by_cases hn:n<0
   ·have hf:xL n=45::nZ n.natAbs:=by rw[xL,if_neg h0,if_pos hn];rfl
    have hp:tC (xL n)=((n.natAbs:Int),((nZ n.natAbs).length:Int)):=by
     rw[tC,hf,k_List_take_of_length_le (by simp;omega),k_List_foldl_cons,show IK (0,0) 45=(0,0)from if_neg (by decide),ZQ]
    refine⟨?_,by rw[hp];simp;omega,by rw[hf];simp;omega⟩;rw[lJ,if_pos (by rw[hf];rfl),hp];simp only;omega
   ·have hf:xL n=nZ n.natAbs:=by rw[xL,if_neg h0,if_neg hn];rfl
    have hp:tC (xL n)=((n.natAbs:Int),((nZ n.natAbs).length:Int)):=by
     rw[tC,hf,k_List_take_of_length_le (by omega),ZQ]
    refine⟨?_,by rw[hp];simp;omega,by rw[hf];omega⟩;rw[lJ,if_neg,hp]
    ·simp only;omega
    ·rw[hf];intro h1;have:=ad4 _ _ (aA h1);exact absurd this.1 (by decide)
 refine⟨?_,key.1⟩;simp only[nA,k_Bool_and_eq_true,decide_eq_true_eq];exact⟨⟨key.2.1,key.2.2⟩,by rw[key.1]⟩
def ED:∀(s:Str) (st:Int×Int),0<=st.1->st.1<10^st.2.toNat->0<=st.2->0<=(s.foldl IK st).1/\(s.foldl IK st).1<10^(s.foldl IK st).2.toNat/\0<=(s.foldl IK st).2
 |[],st,h1,h2,h3=>⟨h1,h2,h3⟩
 |c::s,st,h1,h2,h3=>by
  rw[k_List_foldl_cons];by_cases hc:aAD c
  ·rw[ag0 hc];refine ED s _ ?_ ?_ ?_
   ·have:=hc.1;simp only;omega
   ·have:=hc.2;simp only;rw[show(st.2+1).toNat=st.2.toNat+1 by omega,Int.pow_succ];have:=hc.1;omega
   ·simp only;omega
  ·rw[show IK st c=st from if_neg hc];exact ED s st h1 h2 h3
def auE {s:Str}(h:nA s=true): -999999999<=lJ s/\lJ s<=999999999:=by
 simp only[nA,k_Bool_and_eq_true,decide_eq_true_eq]at h;have hp:=ED (s.take 11) (0,0) (by simp) (by simp) (by simp);have hk:(tC s).2.toNat<=9:=by omega
 have h10:(10:Int)^(tC s).2.toNat<=1000000000:=by
  have h1:(10:Nat)^(tC s).2.toNat<=10^9:=jN (by omega) hk;have h2:((10^(tC s).2.toNat:Nat):Int)<=((10^9:Nat):Int):=by exact_mod_cast h1
  simpa using h2
 have h5:0<=(tC s).1/\(tC s).1<10^(tC s).2.toNat:=⟨hp.1,hp.2.1⟩;unfold lJ;split<;>omega
def decDigits_eq (u:Nat):Lib.decDigits u=if u=0 then[48]else nZ u:=by
 induction u using Nat.strongRecOn with
 |ind u ih=>
  rw[Lib.decDigits];split
  ·rename_i h;by_cases h0:u=0
   ·subst h0;rfl
   ·rw[if_neg h0,wI h0,show u/10=0 by omega,wJ,jM h];rfl
  ·rename_i h;rw[ih (u/10) (by omega),if_neg (by omega),if_neg (by omega),wI (m:=u) (by omega)]
def aBA (n:Int):Lib.itoa n=xL n:=by
 unfold Lib.itoa xL;by_cases h0:n=0
 ·subst h0;rw[if_neg (by omega),if_pos rfl,decDigits_eq];rfl
 ·rw[if_neg h0];by_cases hn:n<0
  ·rw[if_pos hn,if_pos hn,decDigits_eq,if_neg (by omega)];rfl
  ·rw[if_neg hn,if_neg hn,decDigits_eq,if_neg (by omega),show n.toNat=n.natAbs by omega];rfl
def UU:∀(l:Str) (acc n:Nat) (m:Nat),Lib.decFrom acc l=some n->Lib.decFrom acc (l++[UInt8.ofNat (48+m % 10)])=some (n*10+m % 10)
 |[],acc,n,m,h=>by
  obtain rfl:acc=n:=by simpa[Lib.decFrom]using h
  have hd:=(abH m).2
  have hv:Lib.digitVal (UInt8.ofNat (48+m % 10))=some (m % 10):=by
   unfold Lib.digitVal;rw[hd,if_pos (by omega)];congr 1;omega
  simp only[iM,Lib.decFrom,hv]
 |c::l,acc,n,m,h=>by
  simp only[iA,Lib.decFrom]at h|-
  cases hc:Lib.digitVal c with
  |none=>rw[hc]at h;cases h
  |some d=>rw[hc]at h;exact UU l _ n m h
def acV (u:Nat):Lib.decFrom 0 (nZ u)=some u:=by
 induction u using Nat.strongRecOn with
 |ind u ih=>
  by_cases h0:u=0
  ·subst h0;rw[wJ];rfl
  ·rw[wI h0,UU _ _ _ u (ih (u/10) (by omega))];congr 1;omega
def Q9 {u:Nat}(h:u≠0):Lib.decNat (nZ u)=some u:=by
 unfold Lib.decNat;rw[if_neg (by simpa using agU h),acV]
def avO (h: -999999999<=n/\n<=999999999):Lib.atoiAll (xL n)= .ok n:=by
 have hl:=TN n.natAbs 9 (by omega)
 have hlen:(xL n).length<=18:=by
  unfold xL;split
  ·simp
  ·rw[aO];split<;>simp<;>omega
 rw[Lib.atoiAll_short _ hlen]
 have:Lib.atoi (xL n)=some n:=by
  by_cases h0:n=0
  ·subst h0;rfl
  ·by_cases hn:n<0
   ·have hf:xL n=45::nZ n.natAbs:=by rw[xL,if_neg h0,if_pos hn];rfl
    rw[hf,Lib.atoi,if_pos (by rfl),Q9 (by omega),dA];congr 1;omega
   ·have hf:xL n=nZ n.natAbs:=by rw[xL,if_neg h0,if_neg hn];rfl
    rw[hf];have hd:=Q9 (u:=n.natAbs) (by omega);cases hx:nZ n.natAbs with
    |nil=>exact absurd hx (agU (by omega))
    |cons c r=>
     have hc:=ad4 n.natAbs c (by rw[hx];simp);have h1:¬(c==45)=true:=fun e=>absurd ((show c=45 by simpa using e)▸hc).1 (by decide);have h2:¬(c==43)=true:=fun e=>absurd ((show c=43 by simpa using e)▸hc).1 (by decide);rw[Lib.atoi,if_neg h1,if_neg h2,←hx,hd,dA];congr 1;omega
 rw[this];rfl
def gW:L1->L1->Int
 |[],[]=>0
 |[],_::_=> -1
 |_::_,[]=>1
 |a::x,b::y=>if a<b then -1 else if b<a then 1 else gW x y
def R5:∀{a b:L1},gW a b<=0->gW b a<=0->a=b
 |[],[],_,_=>rfl
 |[],_::_,_,h=>by simp[gW]at h
 |_::_,[],h,_=>by simp[gW]at h
 |a::x,b::y,h,h'=>by
  simp only[gW]at h h'
  have hab:a=b:=by
   split at h
   ·rename_i h1;rw[if_neg (by omega),if_pos h1]at h';omega
   ·split at h
    ·omega
    ·omega
  subst hab;rw[if_neg (by omega),if_neg (by omega)]at h h';rw[R5 h h']
def PS:∀(a b:L1),gW a b<0↔0<gW b a
 |[],[]=>by simp[gW]
 |[],_::_=>by simp[gW]
 |_::_,[]=>by simp[gW]
 |a::x,b::y=>by
  have ih:=PS x y;simp only[gW];by_cases h1:a<b
  ·rw[if_pos h1,if_neg (by omega),if_pos h1];omega
  ·by_cases h2:b<a
   ·rw[if_neg h1,if_pos h2,if_pos h2];omega
   ·rw[if_neg h1,if_neg h2,if_neg h2,if_neg h1];exact ih
def Y6:∀{a b c:L1},gW a b<=0->gW b c<=0->gW a c<=0
 |[],_,[],_,_=>by simp[gW]
 |[],_,_::_,_,_=>by simp[gW]
 |_::_,[],_,h,_=>by simp[gW]at h
 |_::_,_::_,[],_,h=>by simp[gW]at h
 |a::x,b::y,c::z,h,h'=>by
  have ih:=Y6 (a:=x) (b:=y) (c:=z);simp only[gW]at h h'|-
  split at h<;>split at h'<;>split<;>(try omega)<;>(try split at h)<;>(try split at h')<;>(try split)<;>(try omega);all_goals exact ih (by omega) (by omega)
def afZ:∀(p x y:L1),gW (p++x) (p++y)=gW x y
 |[],_,_=>rfl
 |a::p,x,y=>by
  show(if a<a then(-1:Int)else if a<a then 1 else gW (p++x) (p++y))=_;rw[if_neg (Int.lt_irrefl a),if_neg (Int.lt_irrefl a)];exact afZ p x y
variable {a b:L1}{i:Nat}
def R6 (h:a.take i=b.take i):gW a b=gW (a.drop i) (b.drop i):=by
 have:=afZ (a.take i) (a.drop i) (b.drop i)
 rwa [cZ,h,cZ]at this
variable {c:Int}
def akA {d:Int}(h:a.take i=b.take i)(hc:a[i]?=some c)(hd:b[i]?=some d)(hn:c≠d):gW a b=if c<d then -1 else 1:=by
 obtain⟨h1,rfl⟩:=aD.1 hc;obtain⟨h2,rfl⟩:=aD.1 hd;rw[R6 h,bN h1,bN h2];simp only[gW];split
 ·rfl
 ·rw[if_pos (by omega)]
def acK (h:a.take i=b.take i)(h1:i<a.length)(h2:b.length<=i):gW a b=1:=by
 rw[R6 h,bN h1,bW h2];rfl
def af0 (h:a=b.take a.length):gW a b=if a.length<b.length then -1 else 0:=by
 rw[R6 (i:=a.length) (by rw[dJ];exact h),bW (k_Nat_le_refl a.length)];cases hd:b.drop a.length with
 |nil=>rw[if_neg (by have:=qA (i:=a.length) (l:=b);rw[hd]at this;simp at this;omega)];rfl
 |cons x l=>rw[if_pos (by have:=qA (i:=a.length) (l:=b);rw[hd]at this;simp at this;omega)];rfl
def take_same (h:a.take i=b.take i)(hc:a[i]?=some c)(hd:b[i]?=some c):a.take (i+1)=b.take (i+1):=by
 rw[xV,xV,h,hc,hd]
def zG (l:L2):L2:=kJ (fun v c=>decide (gW v c<0)) l
def vX (l:L2):(zG l).Perm l:=by
 have:=zY (fun v c:L1=>decide (gW v c<0)) l [];rwa [iM]at this
def aa3 {l:L2}(h:l.Pairwise fun a b=>gW a b<=0)(v:L1):(jW (fun c=>decide (gW v c<0)) l v).Pairwise fun a b=>gW a b<=0:=by
 obtain⟨h1,h2⟩:=ab7 (fun c=>decide (gW v c<0)) l;unfold jW;generalize l.length-backs (fun c=>decide (gW v c<0)) l=k at h1 h2|-
 have hl:∀x∈l.take k,gW x v<=0:=by
  intro x hx
  obtain⟨c,hc⟩:∃c,(l.take k).getLast?=some c:=by
   cases hg:(l.take k).getLast? with
   |some c=>exact⟨c,rfl⟩
   |none=>rw[List.getLast?_eq_none_iff]at hg;rw[hg]at hx;cases hx
  have h3:=h2 c hc;simp only[decide_eq_false_iff_not]at h3;have h4:gW c v<=0:=by have:=PS v c;omega
  obtain⟨t,ht⟩:=oM.1 hc;have hs:(l.take k).Pairwise fun a b=>gW a b<=0:=h.sublist (rX _ _);rw[ht]at hx hs;rcases k_List_mem_append.1 hx with hx|hx
  ·exact Y6 ((fZ.1 hs).2.2 x hx c (by simp)) h4
  ·obtain rfl:x=c:=by simpa using hx
   exact h4
 have hr:∀x∈l.drop k,gW v x<=0:=by
  intro x hx;have h3:=h1 x hx;simp only[decide_eq_true_eq]at h3;omega
 rw[bO,kP];have hs:=h;rw[←List.take_append_drop k l]at hs;obtain⟨a1,a2,a3⟩:=fZ.1 hs;refine fZ.2 ⟨a1,dV.2 ⟨hr,a2⟩,fun x hx y hy=> ?_⟩;rcases aS.1 hy with rfl|hy
 ·exact hl x hx
 ·exact a3 x hx y hy
def WB (l:L2):(zG l).Pairwise fun a b=>gW a b<=0:=by
 have key:∀(l t:L2),(t.Pairwise fun a b=>gW a b<=0)->(l.foldl (fun out v=>jW (fun c=>decide (gW v c<0)) out v) t).Pairwise fun a b=>gW a b<=0:=by
  intro l
  induction l with
  |nil=>exact fun t h=>h
  |cons v l ih=>exact fun t h=>ih _ (aa3 h v)
 exact key l [] List.Pairwise.nil
def axE {a b:L2}(h:a.Perm b):zG a=zG b:=
 List.Perm.eq_of_pairwise (le:=fun u w=>gW u w<=0) (fun u w _ _=>R5) (WB a) (WB b) ((vX a).trans (h.trans (vX b).symm))
def atC {a b:L2}:zG a=zG b↔a.Perm b:=
 ⟨fun h=>(vX a).symm.trans (h▸vX b),axE⟩
def ZR:∀{a b:L2},a.Nodup->a.length=b.length->(∀x∈a,x∈b)->a.Perm b
 |[],b,_,hl,_=>by cases b<;>simp_all
 |x::a,b,hn,hl,hm=>by
  have hx:=hm x (by simp);have hp:=List.perm_cons_erase hx;rw[List.nodup_cons]at hn;refine List.Perm.trans (List.Perm.cons x (ZR hn.2 ?_ fun y hy=> ?_)) hp.symm
  ·rw[List.length_erase_of_mem hx];simp at hl;omega
  ·exact(List.mem_erase_of_ne (fun h:y=x=>hn.1 (by rw[←h];exact hy))).2 (hm y (by simp[hy]))
def anB {a b:L2}(hn:a.Nodup):zG a=zG b↔b.length=a.length/\∀x∈a,x∈b:=
 atC.trans ⟨fun h=>⟨h.length_eq.symm,fun x hx=>h.mem_iff.1 hx⟩,fun h=>ZR hn h.1.symm h.2⟩
structure Ent where
 id:Int
 mem:L1
deriving instance DecidableEq,Inhabited for Ent
structure KI where
 cfg:Cfg
 sto:Sto
 ents:List Ent
 next:Int
 ref:List Ver
def OX (all g:L1)(i:Nat):Bool:=inR (at1 g i) 1 399&&(decide (i=0)||decide (at1 g (i-1)<at1 g i))&& !(all.any fun y=>decide (at1 g i=y))
def adK (all g:L1):Bool:=(List.range g.length).all (OX all g)&&decide (g.length≠0)
def BB:L1->L2->Bool
 |all,[]=>decide (all.length<=8)
 |all,g::G=>adK all g&&BB (all++g) G
def idB (e:Ent):Bool:=inR e.id 1 9999
def aiL (a b:Ent):Bool:=decide (a.id<b.id)
def tO (l:List Ent):Bool:=l.all idB&&adj aiL l&&BB [] (l.map Ent.mem)
def adL:∀(G:L2) {all:L1},8<all.length->BB all G=false
 |[],all,h=>decide_eq_false (by omega)
 |g::G,all,h=>by rw[BB,adL G (by rw[aO];omega),Bool.and_false]
def axC {all g:L1}(h:adK all g=true):g≠[]/\∀x∈g,x∉all:=by
 simp only[adK,k_Bool_and_eq_true,aI,aZ,decide_eq_true_eq]at h;refine⟨fun e=>h.2 (by rw[e];rfl),fun x hx hxa=> ?_⟩;obtain⟨i,hi⟩:=dE hx;have h1:=h.1 i (dM hi);simp only[OX,XR hi,k_Bool_and_eq_true,fU]at h1;have:=fD.1 h1.2 x hxa;simp at this
def ak9:∀{G:L2}{all:L1},BB all G=true->G.Nodup/\(∀g∈G,g≠[]/\∀x∈g,x∉all)/\all.length+G.length<=8
 |[],all,h=>⟨List.nodup_nil,by simp,by simpa[BB]using h⟩
 |g::G,all,h=>by
  rw[BB,k_Bool_and_eq_true]at h;obtain⟨h1,h2,h3⟩:=ak9 h.2;obtain⟨h4,h5⟩:=axC h.1;refine⟨List.nodup_cons.2 ⟨fun hg=> ?_,h1⟩,fun k hk=> ?_,?_⟩
  ·obtain⟨x,hx⟩:=List.exists_mem_of_ne_nil g h4;exact(h2 g hg).2 x hx (by simp[hx])
  ·rcases aS.1 hk with rfl|hk
   ·exact⟨h4,h5⟩
   ·exact⟨(h2 k hk).1,fun x hx hxa=>(h2 k hk).2 x hx (by simp[hxa])⟩
  ·have:=jZ.2 h4;rw[aO]at h3;simp only[aR];omega
def ab3 {l:List Ent}(h:tO l=true):(l.map Ent.mem).Nodup/\l.length<=8:=by
 simp only[tO,k_Bool_and_eq_true]at h;obtain⟨h1,_,h3⟩:=ak9 h.2;exact⟨h1,by simpa using h3⟩
def acL:∀a:L1,gW a a=0
 |[]=>rfl
 |a::x=>by rw[gW,if_neg (by omega),if_neg (by omega),acL x]
def aoG :gW a b=0↔a=b:=
 ⟨fun h=>R5 (by omega) (by have:=PS b a;have:=PS a b;omega),fun h=>by rw[h,acL]⟩
def ax5 (g:L2)(e:Ent):Bool:=g.any fun y=>decide (y=e.mem)
def entOk (g:L2)(n:Int)(e:Ent):Bool:=ax5 g e&&decide (e.id<n)
def azN {E:List Ent}(g:L2)(n:Int)(h:tO E=true):(decide (g.length=E.length)&&E.all (entOk g n))=(!(E.any fun e=>decide (n<=e.id))&&decide (zG (E.map Ent.mem)=zG g)):=by
 rw[bH];simp only[k_Bool_and_eq_true,decide_eq_true_eq,fU,fD,aI,entOk,ax5,cK,anB (ab3 h).1,aX,dF];constructor
 ·rintro⟨h1,h2⟩;exact⟨fun e he=>by have:=(h2 e he).2;omega,h1,by rintro _ ⟨e,he,rfl⟩;obtain⟨y,hy,rfl⟩:=(h2 e he).1;exact hy⟩
 ·rintro⟨h1,h2,h3⟩;exact⟨h2,fun e he=>⟨⟨_,h3 _ ⟨e,he,rfl⟩,rfl⟩,by have:=h1 e he;omega⟩⟩
end Go.Pl
end
section
namespace Go.Er
open Go.ChangeShapes Go.WideShapes Go.ChangeAt Go.RowKit
variable {P:Program}{W:World}
section
variable {H:Type}{enc:TypeId×Value->H}
def afN (hl:laidOutB P=true){W':World}(hb:Below W.heap.size W W'):
  ∀{ts:List TypeId}{vs:List Value}{ds:List (DataW H)}{ps:List MemPlace},(∀t∈ts,P.readableRec t=true/\t<P.types.size)->
   DataW.TrodAll enc P W 0 (fun _=>true) true ts vs ds ps->DataW.TrodAll enc P W' 0 (fun b=>decide (b<W.heap.size)) true ts vs ds ps:=by
 intro ts
 induction ts with
 |nil=>
  intro vs ds ps _ h;cases vs<;>cases ds<;>simp_all[DataW.TrodAll]
 |cons t ts ih=>
  intro vs ds ps hr h;obtain⟨v,vs',d,ds',p,q,rfl,rfl,rfl,h0,h1⟩:=trodAll_cons h;have lt0:∀x∈p,x.block<W.heap.size:=by obtain⟨m,hm⟩:=h0;exact DataW.trod_lt m _ _ _ hm
  exact trodAll_cons_mk (Below.trod hl (hr t (by simp)).1 (hr t (by simp)).2 h0 hb lt0) (ih (fun t' h'=>hr t' (by simp[h'])) h1)
def trodAll_length {base:Nat}{sp:Nat->Bool}{hd:Bool}:
  ∀{ts:List TypeId}{vs:List Value}{ds:List (DataW H)}{ps:List MemPlace},DataW.TrodAll enc P W base sp hd ts vs ds ps->vs.length=ts.length/\ds.length=ts.length:=by
 intro ts
 induction ts with
 |nil=>intro vs ds ps h;cases vs<;>cases ds<;>simp_all[DataW.TrodAll]
 |cons t ts ih=>
  intro vs ds ps h;obtain⟨v,vs',d,ds',p,q,rfl,rfl,rfl,h0,h1⟩:=trodAll_cons h;have:=ih h1;simp[this]
end
abbrev Ext (w w':World):Prop:=Below w.heap.size w w'
def Ext.refl (w:World):Ext w w:=Below.refl _ _
def Ext.trans {a b c:World}(h:Ext a b)(k:Ext b c):Ext a c:=Below.trans h (k.mono h.size)
def Ext.alloc (w:World)(o:Obj):Ext w (w.alloc o):=(Below.refl _ _).alloc (k_Nat_le_refl _) o
def Ext.setCell' {a w:World}(h:Ext a w){p:Addr}(hp:a.heap.size<=p.block)(u:Value):Ext a (w.setCell p u):=Below.setCell h hp u
def Ext.cells {w1:World}(hb:Ext W w1):∀b o,b<W.heap.size->w1.cell? ⟨b,o,none⟩=W.cell? ⟨b,o,none⟩:=
 fun b o h=>Below.cell hb (p:=⟨b,o,none⟩) h
def Cells (w:World)(a:Option Addr)(cs:List Value):Prop:=
 ∀i,(h:i<cs.length)->∃b o,a=some ⟨b,o,none⟩/\w.cell? ⟨b,o+i,none⟩=some cs[i]
def Ints (w:World)(a:Option Addr)(l:L1):Prop:=
 ∀i,(h:i<l.length)->∃b o,a=some ⟨b,o,none⟩/\w.cell? ⟨b,o+i,none⟩=some (.int .i64 l[i])
variable {a:Option Addr}{l:L1}
def Ints.cells {w:World}(h:Ints w a l):Cells w a (l.map (.int .i64)):=by
 intro i hi;obtain⟨b,o,h1,h2⟩:=h i (by simpa using hi);exact⟨b,o,h1,by simpa using h2⟩
def Cells.ints {w:World}(h:Cells w a (l.map (.int .i64))):Ints w a l:=by
 intro i hi;obtain⟨b,o,h1,h2⟩:=h i (by simpa using hi);exact⟨b,o,h1,by simpa using h2⟩
variable {b o:Nat}
def lt_of_cell {w:World}{v:Value}(h:w.cell? ⟨b,o,none⟩=some v):b<w.heap.size:=
 World.block_lt_of_cell? w ⟨b,o,none⟩ h
variable {w':World}
def Cells.ext {w:World}{cs:List Value}(h:Cells w a cs)(e:Ext w w'):Cells w' a cs:=by
 intro i hi;obtain⟨b,o,h1,h2⟩:=h i hi;exact⟨b,o,h1,by rw[e.cells b _ (lt_of_cell h2)];exact h2⟩
def Ints.ext {w:World}(h:Ints w a l)(e:Ext w w'):Ints w' a l:=(h.cells.ext e).ints
def Own1 (w:World)(B:Nat)(e:TypeId)(v:Value)(cs:List Value):Prop:=w.ownsRow B e 1 v cs.length cs
def Own1.nil (w:World)(B:Nat)(e:TypeId):Own1 w B e (.slice none 0 0) []:=World.ownsRow_nil w B e 1
variable {B:Nat}
def Own1.ext {w:World}{e:TypeId}{v:Value}{cs:List Value}(h:Own1 w B e v cs)(hE:Ext w w'):Own1 w' B e v cs:=by
 refine⟨h.1,?_⟩;rcases h.2 with h2|⟨g,cap,cur,hv,hg,hh,r⟩
 ·exact Or.inl h2
 ·exact Or.inr ⟨g,cap,cur,hv,hg,by rw[hE.block g (bK.1 hh).1];exact hh,r⟩
def Own1.mono {w:World}{B':Nat}{e:TypeId}{v:Value}{cs:List Value}(h:Own1 w B e v cs)(hB:B'<=B):Own1 w B' e v cs:=by
 refine⟨h.1,?_⟩;rcases h.2 with h2|⟨g,cap,cur,hv,hg,r⟩
 ·exact Or.inl h2
 ·exact Or.inr ⟨g,cap,cur,hv,k_Nat_le_trans hB hg,r⟩
def Own1.alloc {w:World}{e:TypeId}{v:Value}{cs:List Value}(h:Own1 w B e v cs)(o:Obj):Own1 (w.alloc o) B e v cs:=h.ext (Ext.alloc w o)
def Own1.drewN {w:World}{e:TypeId}{v:Value}{cs:List Value}(h:Own1 w B e v cs)(n:Nat):Own1 (w.drewN n) B e v cs:=h
def Own1.slice {w:World}{e:TypeId}{v:Value}{cs:List Value}(h:Own1 w B e v cs):∃a cap,v= .slice a cs.length cap/\Cells w a cs/\(a=none->cs=[]):=by
 rcases h.2 with⟨rfl,hn⟩|⟨g,cap,cur,rfl,hg,hh,hn,hm,hs,ht⟩
 ·have:cs=[]:=bB hn;subst this;exact⟨none,0,rfl,fun i hi=>by simp at hi,fun _=>rfl⟩
 ·refine⟨some ⟨g,0,none⟩,cap,rfl,fun i hi=>⟨g,0,rfl,?_⟩,fun h=>by cases h⟩;have:=World.ownsRow.cellAt (w:=w) h i (by omega);rw[bU,this];simp[hi]
def Own1.ints {w:World}{e:TypeId}{v:Value}(h:Own1 w B e v (l.map (.int .i64))):∃a cap,v= .slice a l.length cap/\Ints w a l:=by
 obtain⟨a,cap,h1,h2,_⟩:=h.slice;exact⟨a,cap,by simpa using h1,h2.ints⟩
def Own1.set {w w0:World}{e:TypeId}{n cap:Nat}{cs:List Value}(h:Own1 w w0.heap.size e (.slice (some ⟨b,0,none⟩) n cap) cs)(hE:Ext w0 w)(j:Nat)(u:Value):
  Own1 (w.setCell ⟨b,j,none⟩ u) w0.heap.size e (.slice (some ⟨b,0,none⟩) n cap) (cs.set j u)/\Ext w0 (w.setCell ⟨b,j,none⟩ u):=by
 have hn:cs.length=n:=by
  rcases h.2 with⟨h',_⟩|⟨g',cap',cur,h',_⟩<;>simp at h';omega
 subst hn;have hs:=World.ownsRow.stored (w:=w) h j u;refine⟨?_,hE.setCell' (p:=⟨b,j,none⟩) (World.ownsRow.lt h b rfl).1 u⟩;unfold Own1;rw[rA];exact hs.1
def Own1.cellAt {w:World}{B:Nat}{e:TypeId}{b n cap:Nat}{cs:List Value}(h:Own1 w B e (.slice (some ⟨b,0,none⟩) n cap) cs)(j:Nat)(hj:j<cs.length):w.cell? ⟨b,j,none⟩=some cs[j]:=by
 have hn:cs.length=n:=by
  rcases h.2 with⟨h',_⟩|⟨g',cap',cur,h',_⟩<;>simp at h';omega
 subst hn;have:=World.ownsRow.cellAt (w:=w) h j (by omega);rw[this];simp[hj]
def Own1.kept {w:World}{e:TypeId}{v v2:Value}{cs:List Value}(h:Own1 w B e v2 cs)(hg:w.grownBy w' v.ownBlock)(hne:v2.ownBlock=none\/v2.ownBlock≠v.ownBlock):Own1 w' B e v2 cs:=
 World.ownsRow.kept h hg hne
def Apart (v v2:Value):Prop:=∀b,v.ownBlock=some b->v2.ownBlock≠some b
def Apart.symm {v v2:Value}(h:Apart v v2):Apart v2 v:=fun b h1 h2=>h b h2 h1
def Own1.lt {w:World}{e:TypeId}{v:Value}{cs:List Value}(h:Own1 w B e v cs)(hb:v.ownBlock=some b):b<w.heap.size:=(World.ownsRow.lt h b hb).2
def Own1.beside {w:World}{e:TypeId}{v v' v2:Value}{cs2:List Value}(h2:Own1 w B e v2 cs2) (hap:Apart v v2) (hg:w.grownBy w' v.ownBlock)
  (hb:(v'.ownBlock=v.ownBlock/\v.ownBlock≠none)\/v'.ownBlock=some w.heap.size):Own1 w' B e v2 cs2/\Apart v' v2:=by
 refine⟨h2.kept hg ?_,?_⟩
 ·cases h:v2.ownBlock with
  |none=>exact Or.inl rfl
  |some b=>
   right;intro h3;exact hap b h3.symm h
 ·intro b h3 h4;rcases hb with⟨h5,_⟩|h5
  ·exact hap b (h5▸h3) h4
  ·rw[h5]at h3;simp at h3;have:=h2.lt h4;omega
def Ext.at {w:World}(h:Ext w w'){v:Value}(hc:w.cell? ⟨b,o,none⟩=some v):w'.cell? ⟨b,o,none⟩=some v:=
 (h.cells b o (lt_of_cell hc)).trans hc
def Box (w:World)(b:Nat)(t:TypeId)(vs:Array Value):Prop:=w.heap[b]?=some (.cells vs t (0,0))
def Box.new (w:World)(t:TypeId)(vs:Array Value):Box (w.alloc (.cells vs t)) w.heap.size t vs:=heap_alloc_new w _
def Box.ext {w:World}{t:TypeId}{vs:Array Value}(h:Box w b t vs)(e:Ext w w'):Box w' b t vs:=by
 unfold Box at*
 rw[e.block b (bK.1 h).1];exact h
def Box.alloc {w:World}{t:TypeId}{vs:Array Value}(h:Box w b t vs)(o:Obj):Box (w.alloc o) b t vs:=h.ext (Ext.alloc w o)
def Box.lt {w:World}{t:TypeId}{vs:Array Value}(h:Box w b t vs):b<w.heap.size:=(bK.1 h).1
def Box.cell {w:World}{t:TypeId}{vs:Array Value}(h:Box w b t vs)(i:Nat):w.cell? ⟨b,i,none⟩=vs[i]?:=cell_of_row w b i vs t (0,0) h
def Box.free {w:World}{t:TypeId}{vs:Array Value}(h:Box w b t vs)(i:Nat):w.frozen? ⟨b,i,none⟩=false:=by
 unfold Box at h;simp[World.frozen?,h]
def Box.set {w:World}{t:TypeId}{vs:Array Value}(h:Box w b t vs)(i:Nat)(u:Value):Box (w.setCell ⟨b,i,none⟩ u) b t (vs.setIfInBounds i u):=by
 unfold Box at*
 exact heap_setCell_same w b i vs t u h
def Box.setOther {w:World}{c i:Nat}{t:TypeId}{vs:Array Value}(h:Box w b t vs)(hne:b≠c)(u:Value):Box (w.setCell ⟨c,i,none⟩ u) b t vs:=by
 unfold Box at*
 rw[heap_setCell_other w ⟨c,i,none⟩ b u hne];exact h
def Box.drewN {w:World}{t:TypeId}{vs:Array Value}(h:Box w b t vs)(n:Nat):Box (w.drewN n) b t vs:=h
end Go.Er
end
section
namespace Go
def iK:= @List.getElem_append_left
def kV:= @List.getElem_append_right
end Go
end
section
namespace Go.Er
open Go.RowKit
def ahN (w:World)(a:Option Addr)(L:L2):Prop:=
 ∀i,(h:i<L.length)->∃b o ai ci,a=some ⟨b,o,none⟩/\w.cell? ⟨b,o+i,none⟩=some (.slice ai L[i].length ci)/\Ints w ai L[i]
variable {w':World}
def ahN.ext {w:World}{a:Option Addr}{L:L2}(h:ahN w a L)(e:Ext w w'):ahN w' a L:=by
 intro i hi;obtain⟨b,o,ai,ci,h1,h2,h3⟩:=h i hi;exact⟨b,o,ai,ci,h1,e.at h2,h3.ext e⟩
variable {B:Nat}{e:TypeId}{v:Value}{cs:List Value}
def Own1.setOther {w:World}(h:Own1 w B e v cs){b j:Nat}(hne:v.ownBlock≠some b)(u:Value):Own1 (w.setCell ⟨b,j,none⟩ u) B e v cs:=by
 refine⟨h.1,?_⟩;rcases h.2 with h2|⟨g,cap,cur,rfl,hg,hh,r⟩
 ·exact Or.inl h2
 ·refine Or.inr ⟨g,cap,cur,rfl,hg,?_,r⟩;rw[heap_setCell_other w ⟨b,j,none⟩ g u (fun e=>hne (by simp only[Value.ownBlock];rw[e]))];exact hh
def Own1.shape {w:World}(h:Own1 w B e v cs)(hne:0<cs.length):∃g cap,v= .slice (some ⟨g,0,none⟩) cs.length cap:=by
 rcases h.2 with⟨_,hn⟩|⟨g,cap,cur,rfl,_⟩
 ·omega
 ·exact⟨g,cap,rfl⟩
def Apart.nil (v:Value):Apart (.slice none 0 0) v:=fun b h=>by simp[Value.ownBlock]at h
def Own2 (w:World)(B:Nat)(e2 e1:TypeId)(v:Value)(vs:List Value)(L:List (List Value)):Prop:=
 Own1 w B e2 v vs/\vs.length=L.length/\(∀i,(h:i<vs.length)->(h':i<L.length)->Own1 w B e1 vs[i] L[i]/\Apart vs[i] v)/\
  ∀i j,(h:i<vs.length)->(h':j<vs.length)->i≠j->Apart vs[i] vs[j]
variable {e2 e1:TypeId}{vs:List Value}{L:List (List Value)}
def Own2.ext {w:World}(h:Own2 w B e2 e1 v vs L)(hE:Ext w w'):Own2 w' B e2 e1 v vs L:=
 ⟨h.1.ext hE,h.2.1,fun i h1 h2=>⟨(h.2.2.1 i h1 h2).1.ext hE,(h.2.2.1 i h1 h2).2⟩,h.2.2.2⟩
def Own2.mono {w:World}{B':Nat}(h:Own2 w B e2 e1 v vs L)(hB:B'<=B):Own2 w B' e2 e1 v vs L:=
 ⟨h.1.mono hB,h.2.1,fun i h1 h2=>⟨(h.2.2.1 i h1 h2).1.mono hB,(h.2.2.1 i h1 h2).2⟩,h.2.2.2⟩
def Own2.empty {w:World}(h:Own1 w B e2 v []):Own2 w B e2 e1 v [] []:=
 ⟨h,rfl,fun i h1 _=>by simp at h1,fun i j h1 _ _=>by simp at h1⟩
def Own2.push {w:World}{v':Value}{u:Value}(h:Own2 w B e2 e1 v vs L)
  (hu:Own1 w B e1 u cs) (huv:Apart u v) (hus:∀i,(hi:i<vs.length)->Apart u vs[i])
  (hv':Own1 w' B e2 v' (vs++[u])) (hg:w.grownBy w' v.ownBlock) (hb:(v'.ownBlock=v.ownBlock/\v.ownBlock≠none)\/v'.ownBlock=some w.heap.size):
  Own2 w' B e2 e1 v' (vs++[u]) (L++[cs]):=by
 obtain⟨h1,h2,h3,h4⟩:=h;have hbu:=hu.beside huv.symm hg hb;refine⟨hv',by simp[h2],?_,?_⟩
 ·intro i hi hi';simp only[aO,aR,jA]at hi hi';by_cases hlt:i<vs.length
  ·have:=h3 i hlt (by omega);have hbi:=this.1.beside this.2.symm hg hb;simp only[iK hlt,iK (show i<L.length by omega)];exact⟨hbi.1,hbi.2.symm⟩
  ·have e1:(vs++[u])[i]'(by simp;omega)=u:=by rw[kV (by omega)];simp
   have e2:(L++[cs])[i]'(by simp;omega)=cs:=by rw[kV (by omega)];simp
   rw[e1,e2];exact⟨hbu.1,hbu.2.symm⟩
 ·intro i j hi hj hne;simp only[aO,aR,jA]at hi hj;by_cases hli:i<vs.length
  ·by_cases hlj:j<vs.length
   ·simp only[iK hli,iK hlj];exact h4 i j hli hlj hne
   ·obtain rfl:j=vs.length:=by omega
    simp only[iK hli,kV (k_Nat_le_refl _),eH];exact(hus i hli).symm
  ·obtain rfl:i=vs.length:=by omega
   have hlj:j<vs.length:=by omega
   simp only[iK hlj,kV (k_Nat_le_refl _),eH];exact hus j hlj
def Own2.put {w w0:World}{b n cap k:Nat}{x:Value}(h:Own2 w w0.heap.size e2 e1 (.slice (some ⟨b,0,none⟩) n cap) vs L) (hE:Ext w0 w')
  (hk:k<vs.length) (hx:Own1 w' w0.heap.size e1 x cs) (hg:w.grownBy w' vs[k].ownBlock) (hb:(x.ownBlock=vs[k].ownBlock/\vs[k].ownBlock≠none)\/x.ownBlock=some w.heap.size):
  Own2 (w'.setCell ⟨b,k,none⟩ x) w0.heap.size e2 e1 (.slice (some ⟨b,0,none⟩) n cap) (vs.set k x) (L.set k cs)/\Ext w0 (w'.setCell ⟨b,k,none⟩ x):=by
 obtain⟨h1,h2,h3,h4⟩:=h;have hkv:=(h3 k hk (by omega)).2;have hv:=h1.beside hkv hg hb;have hset:=hv.1.set hE k x;have hne:∀y:Value,Apart y (.slice (some ⟨b,0,none⟩) n cap)->y.ownBlock≠some b:=fun y hy hyb=>hy b hyb rfl;refine⟨⟨hset.1,by simp[h2],?_,?_⟩,hset.2⟩
 ·intro i hi hi';have hi2:i<vs.length:=by simpa using hi
  have hi3:i<L.length:=by simpa using hi'
  rw[mW,mW];by_cases hik:k=i
  ·rw[if_pos hik,if_pos hik];exact⟨hx.setOther (hne _ hv.2) x,hv.2⟩
  ·rw[if_neg hik,if_neg hik];have:=h3 i hi2 hi3;have hbi:=this.1.beside (h4 k i hk hi2 hik) hg hb;exact⟨hbi.1.setOther (hne _ this.2) x,this.2⟩
 ·intro i j hi hj hne2;have hi2:i<vs.length:=by simpa using hi
  have hj2:j<vs.length:=by simpa using hj
  rw[mW,mW];by_cases hik:k=i
  ·rw[if_pos hik,if_neg (by omega)];subst hik;exact((h3 j hj2 (by omega)).1.beside (h4 k j hk hj2 hne2) hg hb).2
  ·rw[if_neg hik];by_cases hjk:k=j
   ·rw[if_pos hjk];subst hjk;exact((h3 i hi2 (by omega)).1.beside (h4 k i hk hi2 (k_Ne_symm hne2)) hg hb).2.symm
   ·rw[if_neg hjk];exact h4 i j hi2 hj2 hne2
end Go.Er
end
