/- The walk of the law FnExactFormatReasons. -/
import Derived.Test.YtdgpbgpapcldeaaDoorFmtRI
import Derived.Test.YtdgpbgpapcldeaaDoorKReason
set_option linter.unusedVariables false
set_option linter.unusedSimpArgs false
namespace Go.Proofs.YtdgpbgpapcldeaaDoor
open Go.RowKit Go.Er Go.BigFrame

set_option maxHeartbeats 1600000 in
theorem lawFormatReasons_any (l : List DReason) (hin : ∀ h ∈ l, reasonIn h) (a : Option Addr) (c : Nat) (w : World) (hT : Tab w) (h : RowR 4 ReasonR 0 w a l) :
    Calls Tryd.prog 4 #[.slice a l.length c] w (Yes w) := by
  have HA := Lib.hid h; have HIN := Lib.hid hin; have HT := Lib.hid hT; clear h hin hT
  go_enter Tryd.func4, Tryd.ntmps4
  go_wp2_with fail
  refine (szReasonS_any l 1048576 (by omega) (by omega) a c 0 _ HA.out).mono ?_
  rintro e w1 ⟨v1, rfl, h1, h2, hp1, hE1⟩
  have HE1 := Lib.hid hE1
  have HP := Lib.hid hp1
  clear hE1 hp1
  by_cases hn : v1 < 0
  · go_wp2_with fail
    go_ret
    exact ⟨rfl, HE1.out⟩
  · have HS := Lib.hid (HP.out (by omega))
    go_wp2_with fail
    refine (toReasonS_any l HS.out a c _ (HA.out.ext good_Reason HE1.out)).mono ?_
    rintro e w2 ⟨a2, c2, rfl, hr2, hE2⟩
    have HR2 := Lib.hid (hr2.mono good_Reason (Nat.zero_le _)); have HE2 := Lib.hid (HE1.out.trans hE2)
    clear hr2 hE2
    go_wp2_with fail
    refine (specFormatReasons_any l HIN.out a2 c2 _ HR2.out).mono ?_
    rintro e w3 ⟨rfl, hE3⟩
    have HE3 := Lib.hid (HE2.out.trans hE3)
    clear hE3 HR2 HE2
    go_wp2_with fail
    refine (toReasonS_any l HS.out a c _ (HA.out.ext good_Reason HE3.out)).mono ?_
    rintro e w4 ⟨a4, c4, rfl, hr4, hE4⟩
    have HR4 := Lib.hid (hr4.mono good_Reason (Nat.zero_le _)); have HE4 := Lib.hid (HE3.out.trans hE4)
    clear hr4 hE4
    go_wp2_with fail
    refine (implFormatReasons_any l HIN.out a4 c4 _ (tab_ext HT.out HE4.out) HR4.out).mono ?_
    rintro e w5 ⟨rfl, hE5⟩
    have HR5 := Lib.hid (HR4.out.ext good_Reason hE5); have HE5 := Lib.hid (HE4.out.trans hE5)
    clear hE5 HR4 HE4
    go_wp2_with fail
    refine (toReasonS_any l HS.out a c _ (HA.out.ext good_Reason HE5.out)).mono ?_
    rintro e w6 ⟨a6, c6, rfl, hr6, hE6⟩
    have HR6 := Lib.hid (HR5.out.ext good_Reason hE6); have HQ6 := Lib.hid (hr6.mono good_Reason (Nat.zero_le _)); have HE6 := Lib.hid (HE5.out.trans hE6)
    clear hr6 hE6 HR5 HE5
    go_wp2_with fail
    refine (eqReasonS_any l a4 a6 c4 c6 _ HR6.out HQ6.out).mono ?_
    rintro e w7 ⟨rfl, hE7⟩
    have HE7 := Lib.hid (HE6.out.trans hE7)
    clear hE7 HR6 HQ6 HE6
    go_wp2_with fail
    go_ret
    exact ⟨rfl, HE7.out⟩
end Go.Proofs.YtdgpbgpapcldeaaDoor
