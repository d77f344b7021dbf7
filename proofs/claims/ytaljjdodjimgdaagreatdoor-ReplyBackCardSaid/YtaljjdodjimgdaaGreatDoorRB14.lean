/- WHAT IS TOLD OF ERRORS AND COSTS IS READ BACK, AND ONLY WHAT IS TOLD IS READ: of any error, any cost, and any text. -/
import Derived.Test.YtaljjdodjimgdaaGreatDoorRB13
import Derived.Test.YtaljjdodjimgdaaGreatDoorTie
import Derived.Test.YtaljjdodjimgdaaGreatDoorCards
import Derived.SevenTiedAt
namespace Go.Proofs.YtaljjdodjimgdaaGreatDoor.P
set_option maxRecDepth 100000
theorem card_main : Tryz.pinned.checked.prog.mainIs = some (true, "40889428215a9b253034022b38e1beab503f05d919140495c33f987582f70d06".toList) := by kernel_rfl
theorem card_looks : false = Tryz.pinned.checked.prog.looks [] := by kernel_rfl
theorem card_goes : false = Rows.replyBackRow.goesBy Tryz.pinned.checked.prog := by kernel_rfl
theorem card_wf : Rows.replyBackRow.wfByText (OpenSpec.ofChange Rows.replyBackSpec) = true := by kernel_rfl
theorem card_named : Tryz.prog.funcNamed "oculus/oculuslaw45.ReplyBack" = some 3 := by kernel_rfl
theorem card_stand : ([3, 23, 9].all fun u => !Tryz.prog.wantsStandIn u) = true := by kernel_rfl
theorem replyBack_card : Rows.ReplyBackCardSaid :=
  Claim7.holds_tied_plain_at .later [] [.data, .data, .data, .data, .listed, .data, .pinned] true (true, "40889428215a9b253034022b38e1beab503f05d919140495c33f987582f70d06") false replyBack_holds (fun _ h => by cases h) card_wf (fun _ h => by cases h) replyBack_row_tie rfl ⟨rfl, rfl⟩ card_main rfl
    (fun f fn hf hfn => by
      obtain rfl : f = 3 := Option.some.inj (card_named.symm.trans hf) |>.symm
      obtain rfl : fn = Tryz.f3 := (Option.some.inj (Tryz.func3.symm.trans hfn)).symm
      exact ⟨card_looks, fun j t ht => by
        rw [Tryz.params3] at ht
        have hm : t ∈ [3, 23, 9] := by simpa using Array.mem_of_getElem? ht
        exact (show Tryz.prog.wantsStandIn t = false by simpa using List.all_eq_true.1 card_stand t hm)⟩)
    card_goes
#print axioms replyBack_card
end Go.Proofs.YtaljjdodjimgdaaGreatDoor.P
