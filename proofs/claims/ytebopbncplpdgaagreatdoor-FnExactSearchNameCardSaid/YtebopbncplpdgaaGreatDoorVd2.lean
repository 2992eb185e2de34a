/- The law FnExactSearchName holds: the program's SearchName answers as the reference's for all arguments. No condition beyond the given statement's own. -/
import Derived.Test.YtebopbncplpdgaaGreatDoorVd1
set_option linter.unusedVariables false
set_option linter.defProp false
set_option linter.unusedSimpArgs false
set_option linter.unusedSectionVars false
set_option maxRecDepth 10000
set_option maxHeartbeats 1000000
section
namespace Go.Proofs.YtebopbncplpdgaaGreatDoor
open Go.Dv Go.Pl
open Go.ChangeShapes Go.WideShapes Go.ChangeAt Go.RowKit Go.Er
def fnExactSearchName_row_tie:Rows.fnExactSearchNameRow.laidByTextAt .later Tryz.pinned [.pinned,.data,.data,.sentinel,.sentinel,.data,.data,.data] true:=
 OpenClaim.laidByTextAt_pinned rfl rfl tieO rfl rfl rfl rfl (fun y hy _e=>by
  simp only[Rows.fnExactSearchNameRow,List.zip_cons_cons,List.zip_nil_right,aK,List.mem_nil_iff,or_false]at hy;rcases hy with rfl|rfl|rfl|rfl|rfl|rfl|rfl|rfl
  ·exact⟨pin_unicode_utf8_first,by kernel_rfl⟩
  ·cases _e
  ·cases _e
  ·cases _e
  ·cases _e
  ·cases _e
  ·cases _e
  ·cases _e) fitsO
theorem fnExactSearchName.proved:Rows.FnExactSearchNameCardSaid:=
 Claim7.holds_tied_plain_at .later [] [.pinned,.data,.data,.sentinel,.sentinel,.data,.data,.data] true (true,"e039863b44890f8c09478317e7ae31adbaeb78a91ac3e1e26dae1eff069ad342") true
  O8 (fun _ h=>by cases h) (by kernel_rfl) (fun _ h=>by cases h) fnExactSearchName_row_tie rfl ⟨rfl,rfl⟩ (by kernel_rfl)
  rfl
  (fun f fn hf hfn=>by
   obtain rfl:f=6:=k_Option_some_inj ((show Tryz.prog.funcNamed "loop.example/g01923/laws.FnExactSearchName" =some 6 by kernel_rfl).symm.trans hf)|>.symm;obtain rfl:fn=Tryz.f6:=(k_Option_some_inj (Tryz.func6.symm.trans hfn)).symm
   exact⟨by kernel_rfl,fun j t ht=>by
    rw[Tryz.params6]at ht;rcases j with _|_|_|j
    ·obtain rfl:t=36:=by simpa using ht.symm
     exact(show Tryz.prog.wantsStandIn 36=false by kernel_rfl)
    ·obtain rfl:t=9:=by simpa using ht.symm
     exact(show Tryz.prog.wantsStandIn 9=false by kernel_rfl)
    ·obtain rfl:t=3:=by simpa using ht.symm
     exact(show Tryz.prog.wantsStandIn 3=false by kernel_rfl)
    ·simp at ht⟩)
  (ZU NC rfl)
end Go.Proofs.YtebopbncplpdgaaGreatDoor
end
