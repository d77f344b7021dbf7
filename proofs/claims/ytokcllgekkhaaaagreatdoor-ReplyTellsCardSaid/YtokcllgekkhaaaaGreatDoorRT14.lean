/- The law ReplyTells answers true at every input of its row and leaves its arguments as they were; conditions: those of the row alone (the listed tables of the library read as laid). A part of the proof. -/
import Derived.Test.YtokcllgekkhaaaaGreatDoorRT13
import Derived.Test.YtokcllgekkhaaaaGreatDoorTie
import Derived.Test.YtokcllgekkhaaaaGreatDoorCards
import Derived.SevenTiedAt
namespace Go.Proofs.YtokcllgekkhaaaaGreatDoor.P
set_option maxRecDepth 100000
theorem card_main : Tryz.pinned.checked.prog.mainIs = some (true, "cde32a07b4f25ef2bf03d5b2bf5b764eb5f5130039d1afff1b1fb9dcd1e1b9df".toList) := by kernel_rfl
theorem card_looks : false = Tryz.pinned.checked.prog.looks [] := by kernel_rfl
theorem card_goes : false = Rows.replyTellsRow.goesBy Tryz.pinned.checked.prog := by kernel_rfl
theorem card_wf : Rows.replyTellsRow.wfByText (OpenSpec.ofChange Rows.replyTellsSpec) = true := by kernel_rfl
theorem card_named : Tryz.prog.funcNamed "oculus/oculuslaw45.ReplyTells" = some 5 := by kernel_rfl
theorem card_stand : ([59, 61, 3].all fun u => !Tryz.prog.wantsStandIn u) = true := by kernel_rfl
theorem replyTells_card : Rows.ReplyTellsCardSaid :=
  Claim7.holds_tied_plain_at .later [] [.data, .data, .data, .data, .listed, .data, .pinned] true (true, "cde32a07b4f25ef2bf03d5b2bf5b764eb5f5130039d1afff1b1fb9dcd1e1b9df") false replyTells_holds (fun _ h => by cases h) card_wf (fun _ h => by cases h) replyTells_row_tie rfl ⟨rfl, rfl⟩ card_main rfl
    (fun f fn hf hfn => by
      obtain rfl : f = 5 := Option.some.inj (card_named.symm.trans hf) |>.symm
      obtain rfl : fn = Tryz.f5 := (Option.some.inj (Tryz.func5.symm.trans hfn)).symm
      exact ⟨card_looks, fun j t ht => by
        rw [Tryz.params5] at ht
        have hm : t ∈ [59, 61, 3] := by simpa using Array.mem_of_getElem? ht
        exact (show Tryz.prog.wantsStandIn t = false by simpa using List.all_eq_true.1 card_stand t hm)⟩)
    card_goes
#print axioms replyTells_card
end Go.Proofs.YtokcllgekkhaaaaGreatDoor.P
