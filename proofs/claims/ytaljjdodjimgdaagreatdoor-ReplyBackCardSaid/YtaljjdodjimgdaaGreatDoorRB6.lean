/- WHAT IS TOLD OF ERRORS AND COSTS IS READ BACK, AND ONLY WHAT IS TOLD IS READ: of any error, any cost, and any text. -/
import Derived.Test.YtaljjdodjimgdaaGreatDoorRB5
import Derived.Test.YtaljjdodjimgdaaGreatDoorRows
import Derived.JoinedOf
namespace Go.Proofs.YtaljjdodjimgdaaGreatDoor.P
set_option maxRecDepth 100000
theorem laidOut : laidOutB Tryz.prog = true := by kernel_rfl
theorem mapsRowed_ : mapsRowed Tryz.prog = true := by kernel_rfl
theorem heard_ : Tryz.prog.stopsHeard = true := by kernel_rfl
theorem enter_ : Tryz.prog.mayEnter = true := by kernel_rfl
theorem and_mk {a b : Bool} (ha : a = true) (hb : b = true) : (a && b) = true := by rw [ha, hb]; rfl
end Go.Proofs.YtaljjdodjimgdaaGreatDoor.P
namespace Go.Proofs.YtaljjdodjimgdaaGreatDoor.P
set_option maxRecDepth 100000
theorem f_inPlace : (Rows.replyBackRow.inPlace == Tryz.prog.inPlace 3) = true := by kernel_rfl
theorem f_unf : (Rows.replyBackRow.unfollowed == Tryz.prog.unfollowed 3) = true := by kernel_rfl
theorem f_rec : (Rows.replyBackRow.recurses == Tryz.prog.recurses 3) = true := by kernel_rfl
theorem f_named : (Rows.replyBackRow.named == Tryz.prog.varsNamed 3) = true := by kernel_rfl
theorem f_plain : (Rows.replyBackRow.plainKeys == Tryz.prog.plainKeys) = true := by kernel_rfl
theorem f_lifted : (Rows.replyBackRow.lifted == Tryz.prog.liftsFinal) = true := by kernel_rfl
theorem f_make : (Tryz.prog.make == some Rows.replyBackRow.make) = true := by kernel_rfl
theorem closed : joinedFacts Tryz.pinned.checked.prog 3 Tryz.f3 Rows.replyBackSpec Rows.replyBackRow = true := by
  show joinedFacts Tryz.prog 3 Tryz.f3 Rows.replyBackSpec Rows.replyBackRow = true
  unfold joinedFacts
  repeat' first | with_reducible exact laidOut | with_reducible exact mapsRowed_ | with_reducible exact heard_ | with_reducible exact enter_ | with_reducible exact f_inPlace | with_reducible exact f_unf | with_reducible exact f_rec | with_reducible exact f_named | with_reducible exact f_plain | with_reducible exact f_lifted | with_reducible exact f_make | with_reducible refine and_mk ?_ ?_ | kernel_rfl
end Go.Proofs.YtaljjdodjimgdaaGreatDoor.P
